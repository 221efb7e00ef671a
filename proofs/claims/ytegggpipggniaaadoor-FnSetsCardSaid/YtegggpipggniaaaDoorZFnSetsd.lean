/- For every input the law FnSets returns true, and every argument reads behind the call as it read before: no condition. Here: the last part, the theorem in it. -/
import Derived.Test.YtegggpipggniaaaDoorZFnSetsc
import Derived.Test.YtegggpipggniaaaDoorZFnSetsb
import Derived.Test.YtegggpipggniaaaDoorQax21
import Derived.Test.YtegggpipggniaaaDoorQax8
import Derived.Test.YtegggpipggniaaaDoorQax22
import Derived.Test.YtegggpipggniaaaDoorQax24
import Derived.Test.YtegggpipggniaaaDoorQax25
import Derived.Test.YtegggpipggniaaaDoorZFnSetsa
import Derived.Test.YtegggpipggniaaaDoorQax23
import Derived.Test.YtegggpipggniaaaDoorQax26
import Derived.Test.YtegggpipggniaaaDoorQax2
import Derived.Test.YtegggpipggniaaaDoorCards
import Derived.Test.YtegggpipggniaaaDoorTie
import Derived.WalkKit
import Derived.ProofKit
import Derived.OpenShut
import Derived.ShutString
import Derived.ChangeOld
import Derived.Below
import Derived.SizedLaws
import Derived.Lay
import Derived.LaidOnce
import Derived.SevenTiedAt
/- Trees turned: what is set, taken or put, and what stays right. -/
namespace Go.Proofs.YtegggpipggniaaaDoor.Pure
open Go.RowKit Go.Proofs.YtegggpipggniaaaDoor.Qa Go.Proofs.YtegggpipggniaaaDoorW.PrintWords Go.Proofs.YtegggpipggniaaaDoorW.PrintLast Go.Proofs.YtegggpipggniaaaDoor.Aid
/-- Nodes that are right one by one, rising, the top among them. -/
structure GoodT (n : Nat) (l : List ZZ) : Prop where
  few : l.length ≤ n
  good : ∀ z ∈ l, zOwn z = 0
  rise : Rises pk l
  top : ∃ z ∈ l, pk z = [47]
theorem GoodT.some {n : Nat} {l : List ZZ} (h : GoodT n l) : 1 ≤ l.length := by
  obtain ⟨z, hz, _⟩ := h.top
  cases l with
  | nil => cases hz
  | cons => simp
theorem GoodT.mono {n m : Nat} {l : List ZZ} (h : GoodT n l) (hm : n ≤ m) : GoodT m l := ⟨Nat.le_trans h.few hm, h.good, h.rise, h.top⟩
theorem TreeM.goodT {l : List ZZ} (h : TreeM l) : GoodT 20 l := ⟨h.few, h.good, h.rise, h.top⟩
theorem zOwn_of {z : ZZ} (h1 : faultR z.f0 = 0) (h2 : zIn z = true) : zOwn z = 0 := by unfold zOwn; rw [if_pos h1, if_pos h2]
theorem zIn_of {z : ZZ} (h1 : 0 ≤ z.f1 ∧ z.f1 ≤ 9999) (h2 : 0 ≤ z.f2 ∧ z.f2 ≤ 999) (h3 : 0 ≤ z.f3 ∧ z.f3 ≤ 9) (h4 : 0 ≤ z.f4 ∧ z.f4 ≤ 100) : zIn z = true := by
  unfold zIn
  rw [decide_eq_true h1, decide_eq_true h2, decide_eq_true h3, decide_eq_true h4]
  rfl
theorem zIn_ok {z : ZZ} (h : zIn z = true) : (0 ≤ z.f1 ∧ z.f1 ≤ 9999) ∧ (0 ≤ z.f2 ∧ z.f2 ≤ 999) ∧ (0 ≤ z.f3 ∧ z.f3 ≤ 9) ∧ (0 ≤ z.f4 ∧ z.f4 ≤ 100) := by
  unfold zIn at h
  simp only [Bool.and_eq_true, decide_eq_true_eq] at h
  exact h
theorem mem_set {l : List ZZ} (hr : Rises pk l) {p : Nat} (hp : p < l.length) (z x : ZZ) : x ∈ l.set p z ↔ x = z ∨ (x ∈ l ∧ x ≠ l[p]) := by
  constructor
  · intro hx
    obtain ⟨j, hj, rfl⟩ := List.getElem_of_mem hx
    rw [List.length_set] at hj
    rw [List.getElem_set]
    by_cases c : p = j
    · left; rw [if_pos c]
    · right
      rw [if_neg c]
      refine ⟨List.getElem_mem hj, fun e => c ?_⟩
      have h1 := (hereK_at hr j hj).1
      have h2 := (hereK_at hr p hp).1
      rw [e, h2] at h1
      exact h1
  · rintro (rfl | ⟨hx, hne⟩)
    · exact List.mem_set hp x
    · obtain ⟨j, hj, rfl⟩ := List.getElem_of_mem hx
      have c : p ≠ j := fun e => hne (by subst e; rfl)
      have : (l.set p z)[j]'(by rw [List.length_set]; exact hj) = l[j] := by rw [List.getElem_set, if_neg c]
      rw [← this]
      exact List.getElem_mem _
theorem set_good {n : Nat} {l : List ZZ} (h : GoodT n l) {p : Nat} (hp : p < l.length) {z : ZZ} (hk : pk z = pk l[p]) (ho : zOwn z = 0) : GoodT n (l.set p z) := by
  refine ⟨by rw [List.length_set]; exact h.few, fun x hx => ?_, same_rise (set_keys hp hk).symm h.rise, ?_⟩
  · rcases (mem_set h.rise hp z x).1 hx with rfl | ⟨hx, _⟩
    · exact ho
    · exact h.good x hx
  · obtain ⟨t, ht, e⟩ := h.top
    by_cases c : t = l[p]
    · exact ⟨z, (mem_set h.rise hp z z).2 (.inl rfl), by rw [hk, ← c]; exact e⟩
    · exact ⟨t, (mem_set h.rise hp z t).2 (.inr ⟨ht, c⟩), e⟩
theorem set_tree {l : List ZZ} (h : TreeM l) {p : Nat} (hp : p < l.length) {z : ZZ} (hk : pk z = pk l[p]) (hu : z.f0 = l[p].f0) (h3 : z.f3 = l[p].f3) (ho : zOwn z = 0) : TreeM (l.set p z) := by
  have hg := set_good h.goodT hp hk ho
  have tom : ∀ y ∈ l, ∃ y' ∈ l.set p z, pk y' = pk y ∧ y'.f3 = y.f3 := by
    intro y hy
    by_cases c : y = l[p]
    · exact ⟨z, (mem_set h.rise hp z z).2 (.inl rfl), by rw [c, hk], by rw [c, h3]⟩
    · exact ⟨y, (mem_set h.rise hp z y).2 (.inr ⟨hy, c⟩), rfl, rfl⟩
  refine ⟨hg.few, hg.good, hg.rise, hg.top, fun x hx => ?_⟩
  rcases (mem_set h.rise hp z x).1 hx with rfl | ⟨hx, _⟩
  · obtain ⟨y, hy, e, h0⟩ := h.ups l[p] (List.getElem_mem hp)
    obtain ⟨y', hy', e1, e2⟩ := tom y hy
    refine ⟨y', hy', ?_, by rw [e2, h0]⟩
    rw [e1, e]
    unfold upK
    rw [hu]
  · obtain ⟨y, hy, e, h0⟩ := h.ups x hx
    obtain ⟨y', hy', e1, e2⟩ := tom y hy
    exact ⟨y', hy', by rw [e1, e], by rw [e2, h0]⟩
theorem putVD {l : List ZZ} {p : Nat} (hp : p < l.length) (d : Int) : putV (putD l (p : Int) d) (p : Int) = l.set p (⟨l[p].f0, d, wrap64 (l[p].f2 + 1), l[p].f3, l[p].f4⟩ : ZZ) := by
  unfold putV putD
  rw [Int.toNat_natCast, rd_T32_set hp, rd_T32_at hp, List.set_set]
theorem nextUpD {l : List ZZ} {p : Nat} (hp : p < l.length) : nextUp l (p : Int) = l.set p (⟨l[p].f0, l[p].f1, l[p].f2, l[p].f3, wrap64 (l[p].f4 + 1)⟩ : ZZ) := by
  unfold nextUp
  rw [Int.toNat_natCast, rd_T32_at hp]
theorem setV_ok {z : ZZ} (h : zOwn z = 0) (h9 : ¬ z.f2 = 999) {d : Int} (hd : 0 ≤ d ∧ d ≤ 9999) : zOwn (⟨z.f0, d, wrap64 (z.f2 + 1), z.f3, z.f4⟩ : ZZ) = 0 := by
  obtain ⟨h1, h2⟩ := zOwn_ok h
  obtain ⟨_, b, c, e⟩ := zIn_ok h2
  have w : wrap64 (z.f2 + 1) = z.f2 + 1 := wrap_id (by omega) (by omega)
  exact zOwn_of h1 (zIn_of hd (by show 0 ≤ wrap64 (z.f2 + 1) ∧ wrap64 (z.f2 + 1) ≤ 999; rw [w]; omega) c e)
theorem nextV_ok {z : ZZ} (h : zOwn z = 0) (h9 : ¬ z.f4 = 100) : zOwn (⟨z.f0, z.f1, z.f2, z.f3, wrap64 (z.f4 + 1)⟩ : ZZ) = 0 := by
  obtain ⟨h1, h2⟩ := zOwn_ok h
  obtain ⟨a, b, c, e⟩ := zIn_ok h2
  have w : wrap64 (z.f4 + 1) = z.f4 + 1 := wrap_id (by omega) (by omega)
  exact zOwn_of h1 (zIn_of a b c (by show 0 ≤ wrap64 (z.f4 + 1) ∧ wrap64 (z.f4 + 1) ≤ 100; rw [w]; omega))
theorem gone_len {l : List ZZ} {p : Nat} (hp : p < l.length) : (goneAt l p).length = l.length - 1 := by
  unfold goneAt
  rw [List.length_append, List.length_take, List.length_drop]
  omega
theorem mem_gone {l : List ZZ} (hr : Rises pk l) {p : Nat} (hp : p < l.length) (x : ZZ) : x ∈ goneAt l p ↔ x ∈ l ∧ x ≠ l[p] := by
  have hs : l = l.take p ++ l[p] :: l.drop (p + 1) := by rw [← drop_at hp, List.take_append_drop]
  have hp2 := hr
  rw [hs] at hp2
  obtain ⟨_, h2, h3⟩ := List.pairwise_append.1 hp2
  obtain ⟨h4, _⟩ := List.pairwise_cons.1 h2
  unfold goneAt
  constructor
  · intro hx
    rcases List.mem_append.1 hx with hx | hx
    · refine ⟨List.mem_of_mem_take hx, fun e => ?_⟩
      have := h3 x hx l[p] (List.mem_cons.2 (.inl rfl))
      rw [e] at this
      exact lt_irr _ this
    · refine ⟨List.mem_of_mem_drop hx, fun e => ?_⟩
      have := h4 x hx
      rw [e] at this
      exact lt_irr _ this
  · rintro ⟨hx, hne⟩
    obtain ⟨j, hj, rfl⟩ := List.getElem_of_mem hx
    rcases Nat.lt_trichotomy j p with c | c | c
    · have hj2 : j < (l.take p).length := by rw [List.length_take]; omega
      have e : (l.take p)[j] = l[j] := List.getElem_take
      exact List.mem_append.2 (.inl (by rw [← e]; exact List.getElem_mem hj2))
    · subst c
      exact absurd rfl hne
    · have hj2 : j - (p + 1) < (l.drop (p + 1)).length := by rw [List.length_drop]; omega
      have e : (l.drop (p + 1))[j - (p + 1)] = l[p + 1 + (j - (p + 1))]'(by omega) := List.getElem_drop
      have e2 : l[p + 1 + (j - (p + 1))]'(by omega) = l[j] := by congr 1; omega
      exact List.mem_append.2 (.inr (by rw [← e2, ← e]; exact List.getElem_mem hj2))
theorem gone_rise {l : List ZZ} (hr : Rises pk l) (p : Nat) : Rises pk (goneAt l p) := by
  unfold goneAt
  rcases Nat.lt_or_ge p l.length with hp | hp
  · have hs : l = l.take p ++ l[p] :: l.drop (p + 1) := by rw [← drop_at hp, List.take_append_drop]
    have hp2 := hr
    rw [hs] at hp2
    obtain ⟨h1, h2, h3⟩ := List.pairwise_append.1 hp2
    exact List.pairwise_append.2 ⟨h1, (List.pairwise_cons.1 h2).2, fun x hx y hy => h3 x hx y (List.mem_cons_of_mem _ hy)⟩
  · rw [List.take_of_length_le hp, drop_end (by omega), List.append_nil]
    exact hr
theorem gone_good {n : Nat} {l : List ZZ} (h : GoodT n l) {p : Nat} (hp : p < l.length) (ht : ¬ pk l[p] = [47]) : GoodT n (goneAt l p) := by
  refine ⟨by rw [gone_len hp]; have := h.few; omega, fun x hx => h.good x ((mem_gone h.rise hp x).1 hx).1, gone_rise h.rise p, ?_⟩
  obtain ⟨t, htm, e⟩ := h.top
  exact ⟨t, (mem_gone h.rise hp t).2 ⟨htm, fun c => ht (by rw [← c]; exact e)⟩, e⟩
theorem ins_len {l : List ZZ} {p : Nat} (hp : p ≤ l.length) (z : ZZ) : (insAt l p z).length = l.length + 1 := by
  unfold insAt
  rw [List.length_append, List.length_append, List.length_take, List.length_drop, List.length_singleton]
  omega
theorem mem_ins {l : List ZZ} {p : Nat} (z x : ZZ) : x ∈ insAt l p z ↔ x = z ∨ x ∈ l := by
  unfold insAt
  constructor
  · intro hx
    rcases List.mem_append.1 hx with hx | hx
    · rcases List.mem_append.1 hx with hx | hx
      · exact .inr (List.mem_of_mem_take hx)
      · exact .inl (List.mem_singleton.1 hx)
    · exact .inr (List.mem_of_mem_drop hx)
  · rintro (rfl | hx)
    · simp
    · rw [← List.take_append_drop p l] at hx
      rcases List.mem_append.1 hx with hx | hx
      · exact List.mem_append.2 (.inl (List.mem_append.2 (.inl hx)))
      · exact List.mem_append.2 (.inr hx)
theorem ins_rise {l : List ZZ} (hr : Rises pk l) (z : ZZ) (hz : ¬ hereK pk l (pk z) = true) : Rises pk (insAt l (posK pk l (pk z)) z) := by
  have hne : ∀ y ∈ l, pk y ≠ pk z := fun y hy e => hz (by rw [← e]; exact hereK_mem hr hy)
  have lo : ∀ y ∈ l.take (posK pk l (pk z)), pk y < pk z := by
    intro y hy
    obtain ⟨j, hj, rfl⟩ := List.getElem_of_mem hy
    rw [List.length_take] at hj
    rw [List.getElem_take]
    exact (posK_iff hr (pk z) j (by omega)).2 (by omega)
  have hi : ∀ y ∈ l.drop (posK pk l (pk z)), pk z < pk y := by
    intro y hy
    have hn := hne y (List.mem_of_mem_drop hy)
    obtain ⟨j, hj, rfl⟩ := List.getElem_of_mem hy
    rw [List.length_drop] at hj
    rw [List.getElem_drop] at hn ⊢
    exact lt_tri (fun c => by have := (posK_iff hr (pk z) _ (by omega)).1 c; omega) hn
  unfold insAt
  refine List.pairwise_append.2 ⟨List.pairwise_append.2 ⟨hr.sublist (List.take_sublist _ _), List.pairwise_singleton _ _, ?_⟩, hr.sublist (List.drop_sublist _ _), ?_⟩
  · intro x hx y hy
    rw [List.mem_singleton] at hy
    subst hy
    exact lo x hx
  · intro x hx y hy
    rcases List.mem_append.1 hx with hx | hx
    · exact lt_tr (lo x hx) (hi y hy)
    · rw [List.mem_singleton] at hx
      subst hx
      exact hi y hy
theorem ins_good {n : Nat} {l : List ZZ} (h : GoodT n l) {z : ZZ} (hz : ¬ hereK pk l (pk z) = true) (ho : zOwn z = 0) : GoodT (n + 1) (insAt l (posK pk l (pk z)) z) := by
  refine ⟨by rw [ins_len (posK_le _ _ _)]; have := h.few; omega, fun x hx => ?_, ins_rise h.rise z hz, ?_⟩
  · rcases (mem_ins z x).1 hx with rfl | hx
    · exact ho
    · exact h.good x hx
  · obtain ⟨t, ht, e⟩ := h.top
    exact ⟨t, (mem_ins z t).2 (.inr ht), e⟩
theorem setIn_good {n : Nat} {l : List ZZ} (h : GoodT n l) {q : ByteArray} {d v : Int} (h0 : (setIn l q d v).1 = 0) : GoodT n (setIn l q d v).2.2 := by
  unfold setIn at h0 ⊢
  by_cases hd : 0 ≤ d ∧ d ≤ 9999
  · rw [if_pos hd] at h0 ⊢
    by_cases hh : hereK pk l q.data.toList = true
    · rw [if_pos hh] at h0 ⊢
      have hp := hereK_lt hh
      unfold setAt at h0 ⊢
      rw [rd_T32_at hp] at h0 ⊢
      by_cases hv : v = -1 ∨ v = (l[posK pk l q.data.toList]).f2
      · rw [if_pos hv] at h0 ⊢
        by_cases h9 : (l[posK pk l q.data.toList]).f2 = 999
        · rw [if_pos h9] at h0; cases h0
        · rw [if_neg h9]
          show GoodT n (putV (putD l _ d) _)
          rw [putVD hp]
          exact set_good h hp rfl (setV_ok (h.good _ (List.getElem_mem hp)) h9 hd)
      · rw [if_neg hv] at h0; cases h0
    · rw [if_neg hh] at h0; cases h0
  · rw [if_neg hd] at h0; cases h0
theorem deleteIn_good {n : Nat} {l : List ZZ} (h : GoodT n l) {q : ByteArray} {v : Int} (h0 : (deleteIn l q v).1 = 0) : GoodT n (deleteIn l q v).2.2 := by
  by_cases ht : q.data.toList = [47]
  · rw [del_top ht] at h0; cases h0
  · by_cases hh : hereK pk l q.data.toList = true
    · have hp := hereK_lt hh
      by_cases hv : v = -1 ∨ v = (rd_T32 l (posK pk l q.data.toList : Int)).f2
      · by_cases hk : kidsL q l = []
        · rw [del_ok ht hh hv hk]
          exact gone_good h hp (by rw [hereK_eq hh]; exact ht)
        · rw [del_kids ht hh hv hk] at h0; cases h0
      · rw [del_ver ht hh hv] at h0; cases h0
    · rw [del_none ht hh] at h0; cases h0
theorem makeR_good {n : Nat} {l : List ZZ} (h : GoodT n l) {q : ByteArray} (hq : faultR q = 0) {d o : Int} (hd : 0 ≤ d ∧ d ≤ 9999) (ho : 0 ≤ o ∧ o ≤ 9) (h0 : (makeR l q d o).1 = 0) : GoodT (n + 1) (makeR l q d o).2.2 := by
  unfold makeR at h0 ⊢
  by_cases hh : hereK pk l q.data.toList = true
  · rw [if_pos hh] at h0; cases h0
  · rw [if_neg hh] at h0 ⊢
    by_cases h2 : l.length = 20
    · rw [if_pos h2] at h0; cases h0
    · rw [if_neg h2]
      exact ins_good (z := (⟨q, d, 0, o, 0⟩ : ZZ)) h hh (zOwn_of hq (zIn_of hd ⟨Int.le_refl _, by show (0 : Int) ≤ 999; omega⟩ ho ⟨Int.le_refl _, by show (0 : Int) ≤ 100; omega⟩))
theorem createIn_good {n : Nat} {l : List ZZ} (h : GoodT n l) {q : ByteArray} (hq : faultR q = 0) {d o : Int} {b : Bool} (h0 : (createIn l q d o b).1 = 0) : GoodT (n + 1) (createIn l q d o b).2.2 := by
  unfold createIn at h0 ⊢
  by_cases hdo : (0 ≤ d ∧ d ≤ 9999) ∧ (0 ≤ o ∧ o ≤ 9)
  · rw [if_pos hdo] at h0 ⊢
    by_cases ht : q.data.toList = [47]
    · rw [if_pos ht] at h0; cases h0
    · rw [if_neg ht] at h0 ⊢
      by_cases hh : hereK pk l (upR q).data.toList = true
      · rw [if_pos hh] at h0 ⊢
        have hp := hereK_lt hh
        rw [rd_T32_at hp] at h0 ⊢
        by_cases h3 : (l[posK pk l (upR q).data.toList]).f3 = 0
        · rw [if_pos h3] at h0 ⊢
          unfold createUp at h0 ⊢
          rw [rd_T32_at hp] at h0 ⊢
          cases b with
          | false =>
            rw [if_neg (by decide)] at h0 ⊢
            exact makeR_good h hq hdo.1 hdo.2 h0
          | true =>
            rw [if_pos rfl] at h0 ⊢
            by_cases h4 : (l[posK pk l (upR q).data.toList]).f4 = 100
            · rw [if_pos h4] at h0; cases h0
            · rw [if_neg h4] at h0 ⊢
              by_cases h5 : nameB (seqT (nmR q) (l[posK pk l (upR q).data.toList]).f4) = true
              · rw [if_pos h5] at h0 ⊢
                by_cases h6 : faultR (joinR (upR q) (seqT (nmR q) (l[posK pk l (upR q).data.toList]).f4)) = 0
                · rw [if_pos h6] at h0 ⊢
                  rw [nextUpD hp] at h0 ⊢
                  exact makeR_good (by exact set_good h hp rfl (nextV_ok (h.good _ (List.getElem_mem hp)) h4)) h6 hdo.1 hdo.2 h0
                · rw [if_neg h6] at h0; exact absurd h0 h6
              · rw [if_neg h5] at h0; cases h0
        · rw [if_neg h3] at h0; cases h0
      · rw [if_neg hh] at h0; cases h0
  · rw [if_neg hdo] at h0; cases h0
end Go.Proofs.YtegggpipggniaaaDoor.Pure

/- A row of nodes cloned, by the program. -/
namespace Go.Proofs.YtegggpipggniaaaDoor.Pure
open Go.RowKit Go.Proofs.YtegggpipggniaaaDoor.Qa Go.Proofs.YtegggpipggniaaaDoorW.PrintWords Go.Proofs.YtegggpipggniaaaDoorW.PrintLast Go.Proofs.YtegggpipggniaaaDoor.Aid
theorem clone_impl (l : List ZZ) (hl : l.length ≤ 1048576000) : slices_Clone_impl_Znode_impl_Znode.f l = some l := by
  unfold slices_Clone_impl_Znode_impl_Znode.f
  simp only [Option.bind_some, List.nil_append, List.length_nil, Nat.zero_add]
  rw [if_pos (by omega)]
end Go.Proofs.YtegggpipggniaaaDoor.Pure

/- The code of a tree and a path, by the program. -/
namespace Go.Proofs.YtegggpipggniaaaDoor.Pure
open Go.RowKit Go.Proofs.YtegggpipggniaaaDoor.Qa Go.Proofs.YtegggpipggniaaaDoorW.PrintWords Go.Proofs.YtegggpipggniaaaDoorW.PrintLast Go.Proofs.YtegggpipggniaaaDoor.Aid
noncomputable def askT (l : List ZZ) (q : ByteArray) : Int := if treeR l = 0 then faultR q else treeR l
theorem askT_impl (l : List ZZ) (q : ByteArray) : Ev (fun k => impl_zCode.f k l q) (askT l q) := by
  unfold impl_zCode.f askT
  refine ev_call (treeR_impl l) ?_
  by_cases h : treeR l = 0
  · rw [if_pos h]
    exact ev_cong (fun k => if_pos h) (ev_call (fault_impl q) (Ev.now _))
  · rw [if_neg h]
    exact ev_is fun k => if_neg h
theorem askT_ok {l : List ZZ} {q : ByteArray} (h : askT l q = 0) : RightT l ∧ faultR q = 0 ∧ treeR l = 0 := by
  unfold askT at h
  by_cases h1 : treeR l = 0
  · rw [if_pos h1] at h
    exact ⟨right_of h1, h, h1⟩
  · rw [if_neg h1] at h; exact absurd h h1
end Go.Proofs.YtegggpipggniaaaDoor.Pure

/- The code of a tree and a path, by the reference. -/
namespace Go.Proofs.YtegggpipggniaaaDoor.Pure
open Go.RowKit Go.Proofs.YtegggpipggniaaaDoor.Qa Go.Proofs.YtegggpipggniaaaDoorW.PrintWords Go.Proofs.YtegggpipggniaaaDoorW.PrintLast Go.Proofs.YtegggpipggniaaaDoor.Aid
theorem askT_spec (l : List ZZ) (q : ByteArray) : Ev (fun k => spec_l2Asked.f k l q) (askT l q) := by
  unfold spec_l2Asked.f askT
  refine ev_call (treeR_spec l) ?_
  by_cases h : treeR l = 0
  · rw [if_pos h]
    exact ev_cong (fun k => if_pos h) (ev_call (fault_spec q) (Ev.now _))
  · rw [if_neg h]
    exact ev_is fun k => if_neg h
end Go.Proofs.YtegggpipggniaaaDoor.Pure

/- A node's data set: the program and the reference answer alike. -/
namespace Go.Proofs.YtegggpipggniaaaDoor.Pure
open Go.RowKit Go.Proofs.YtegggpipggniaaaDoor.Qa Go.Proofs.YtegggpipggniaaaDoorW.PrintWords Go.Proofs.YtegggpipggniaaaDoorW.PrintLast Go.Proofs.YtegggpipggniaaaDoor.Aid
noncomputable def setR (l : List ZZ) (q : ByteArray) (d v : Int) : ZR := if askT l q = 0 then setIn l q d v else badZ (askT l q)
theorem SetZ_spec (l : List ZZ) (q : ByteArray) (d v : Int) : Ev (fun k => spec_SetZ.f k l q d v) (setR l q d v) := by
  unfold spec_SetZ.f setR
  refine ev_call (askT_spec l q) ?_
  by_cases h : askT l q = 0
  · rw [if_pos h]
    obtain ⟨hR, _, _⟩ := askT_ok h
    exact ev_cong (fun k => if_pos h) (ev_call (set_in_spec hR.good hR.few hR.rise q d v) (Ev.now _))
  · rw [if_neg h]
    exact ev_is fun k => if_neg h
theorem SetZ_impl (l : List ZZ) (q : ByteArray) (d v : Int) : Ev (fun k => impl_SetZ.f k l q d v) (setR l q d v) := by
  unfold impl_SetZ.f setR
  refine ev_call (askT_impl l q) ?_
  by_cases h : askT l q = 0
  · rw [if_pos h]
    obtain ⟨hR, _, _⟩ := askT_ok h
    have hf := hR.few
    refine ev_cong (fun k => if_pos h) (ev_call (find_is hR.rise (by omega) q) (ev_is fun k => ?_))
    unfold impl_isData.f setIn
    rw [impl_within_is, clone_impl l (by omega)]
    simp only [Option.bind_some]
    by_cases h1 : 0 ≤ d ∧ d ≤ 9999
    · rw [if_pos (decide_eq_true h1), if_pos h1]
      cases c : hereK pk l q.data.toList with
      | false => rw [if_neg (by simp), if_neg (by simp)]; rfl
      | true =>
        have hp := hereK_lt c
        rw [if_pos rfl, if_pos rfl]
        generalize posK pk l q.data.toList = p at hp
        rw [if_pos (by omega), if_pos (by omega)]
        have e : impl_isVersion.f v ((rd_T32 l (p : Int)).f0) ((rd_T32 l (p : Int)).f1) ((rd_T32 l (p : Int)).f2) ((rd_T32 l (p : Int)).f3) ((rd_T32 l (p : Int)).f4) = some (decide (v = -1 ∨ v = (rd_T32 l (p : Int)).f2)) := by
          unfold impl_isVersion.f
          by_cases h2 : v = -1
          · rw [if_pos h2, decide_eq_true (.inl h2)]
          · rw [if_neg h2]
            by_cases h3 : v = (rd_T32 l (p : Int)).f2
            · rw [decide_eq_true (.inr h3), beq_iff_eq.2 h3]
            · rw [decide_eq_false (fun h => h.elim h2 h3), beq_eq_false_iff_ne.2 h3]
        rw [e, Option.bind_some]
        unfold setAt
        by_cases h2 : v = -1 ∨ v = (rd_T32 l (p : Int)).f2
        · rw [if_pos (decide_eq_true h2), if_pos h2]
          by_cases h3 : (rd_T32 l (p : Int)).f2 = 999
          · rw [if_pos h3, if_pos h3]; rfl
          · rw [if_neg h3, if_neg h3, if_pos (by omega)]; rfl
        · rw [if_neg (by simpa using h2), if_neg h2]; rfl
    · rw [if_neg (by simpa using h1), if_neg h1]; rfl
  · rw [if_neg h]
    exact ev_is fun k => if_neg h
theorem setR_len (l : List ZZ) (q : ByteArray) (d v : Int) : (setR l q d v).2.2.length ≤ l.length := by
  unfold setR setIn setAt badZ putV putD
  split
  · split
    · split
      · split
        · split <;> simp
        · simp
      · simp
    · simp
  · simp
end Go.Proofs.YtegggpipggniaaaDoor.Pure

/- A node told, by the program. -/
namespace Go.Proofs.YtegggpipggniaaaDoor.Pure
open Go.RowKit Go.Proofs.YtegggpipggniaaaDoor.Qa Go.Proofs.YtegggpipggniaaaDoorW.PrintWords Go.Proofs.YtegggpipggniaaaDoorW.PrintLast Go.Proofs.YtegggpipggniaaaDoor.Aid
noncomputable def getR (l : List ZZ) (q : ByteArray) : ZR := if askT l q = 0 then (if hereK pk l q.data.toList = true then (0, (⟨#[]⟩ : ByteArray), [rd_T32 l (posK pk l q.data.toList : Int)]) else badZ 4) else badZ (askT l q)
theorem GetZ_impl (l : List ZZ) (q : ByteArray) : Ev (fun k => impl_GetZ.f k l q) (getR l q) := by
  unfold impl_GetZ.f getR
  refine ev_call (askT_impl l q) ?_
  by_cases h : askT l q = 0
  · rw [if_pos h]
    obtain ⟨hR, _, _⟩ := askT_ok h
    have hf := hR.few
    refine ev_cong (fun k => if_pos h) (ev_call (find_is hR.rise (by omega) q) (ev_is fun k => ?_))
    cases c : hereK pk l q.data.toList with
    | true =>
      have hp := hereK_lt c
      rw [if_pos rfl, if_pos rfl, if_pos (by show 0 ≤ (posK pk l q.data.toList : Int); omega), if_pos (by show (posK pk l q.data.toList : Int) < (l.length : Int); omega)]
    | false => rw [if_neg (by simp), if_neg (by simp)]; rfl
  · rw [if_neg h]
    exact ev_is fun k => if_neg h
theorem getR_len (l : List ZZ) (q : ByteArray) : (getR l q).2.2.length ≤ 1 := by
  unfold getR badZ
  split
  · split <;> simp
  · simp
end Go.Proofs.YtegggpipggniaaaDoor.Pure

/- A node set: what is got, and what stays. -/
namespace Go.Proofs.YtegggpipggniaaaDoor.Pure
open Go.RowKit Go.Proofs.YtegggpipggniaaaDoor.Qa Go.Proofs.YtegggpipggniaaaDoorW.PrintWords Go.Proofs.YtegggpipggniaaaDoorW.PrintLast Go.Proofs.YtegggpipggniaaaDoor.Aid
theorem setR_ok {l : List ZZ} {q : ByteArray} {d v : Int} (h : (setR l q d v).1 = 0) : TreeM l ∧ faultR q = 0 ∧ (0 ≤ d ∧ d ≤ 9999) ∧ hereK pk l q.data.toList = true ∧ ∃ hp : posK pk l q.data.toList < l.length, (v = -1 ∨ v = (l[posK pk l q.data.toList]).f2) ∧ ¬ (l[posK pk l q.data.toList]).f2 = 999 ∧ setR l q d v = (0, (⟨#[]⟩ : ByteArray), l.set (posK pk l q.data.toList) (⟨(l[posK pk l q.data.toList]).f0, d, wrap64 ((l[posK pk l q.data.toList]).f2 + 1), (l[posK pk l q.data.toList]).f3, (l[posK pk l q.data.toList]).f4⟩ : ZZ)) := by
  unfold setR at h ⊢
  by_cases ha : askT l q = 0
  · rw [if_pos ha] at h ⊢
    obtain ⟨hR, hq, _⟩ := askT_ok ha
    unfold setIn at h ⊢
    by_cases hd : 0 ≤ d ∧ d ≤ 9999
    · rw [if_pos hd] at h ⊢
      by_cases hh : hereK pk l q.data.toList = true
      · rw [if_pos hh] at h ⊢
        have hp := hereK_lt hh
        unfold setAt at h ⊢
        rw [rd_T32_at hp] at h ⊢
        by_cases hv : v = -1 ∨ v = (l[posK pk l q.data.toList]).f2
        · rw [if_pos hv] at h ⊢
          by_cases h9 : (l[posK pk l q.data.toList]).f2 = 999
          · rw [if_pos h9] at h; cases h
          · rw [if_neg h9]
            exact ⟨TreeM.of hR, hq, hd, hh, hp, hv, h9, by rw [putVD hp]⟩
        · rw [if_neg hv] at h; cases h
      · rw [if_neg hh] at h; cases h
    · rw [if_neg hd] at h; cases h
  · rw [if_neg ha] at h
    exact absurd h ha
theorem set_ask {l : List ZZ} (h : TreeM l) {q : ByteArray} (hq : faultR q = 0) : askT l q = 0 := by unfold askT; rw [if_pos h.code]; exact hq
/-- The law's words about a node that is set. -/
theorem set_told {l : List ZZ} {q : ByteArray} {d v : Int} (h : (setR l q d v).1 = 0) : ∃ (p : Nat) (hp : p < l.length) (z : ZZ), setR l q d v = (0, (⟨#[]⟩ : ByteArray), l.set p z) ∧ l.length ≤ 20 ∧ treeR (l.set p z) = 0 ∧ getR (l.set p z) q = (0, (⟨#[]⟩ : ByteArray), [z]) ∧ getR l q = (0, (⟨#[]⟩ : ByteArray), [l[p]]) ∧ z.f1 = d ∧ wrap64 ((l[p]).f2 + 1) = z.f2 ∧ (l[p]).f2 ≠ z.f2 ∧ (v = -1 ∨ v = (l[p]).f2) ∧ setR (l.set p z) q d (l[p]).f2 = badZ 7 := by
  obtain ⟨hT, hq, hd, hh, hp, hv, h9, e⟩ := setR_ok h
  have hz := List.getElem_mem hp
  have ho := setV_ok (hT.good _ hz) h9 hd
  have hk : pk (⟨(l[posK pk l q.data.toList]).f0, d, wrap64 ((l[posK pk l q.data.toList]).f2 + 1), (l[posK pk l q.data.toList]).f3, (l[posK pk l q.data.toList]).f4⟩ : ZZ) = pk l[posK pk l q.data.toList] := rfl
  have hT2 := set_tree hT hp hk rfl rfl ho
  have hkeys := set_keys (l := l) hp hk
  have hpe := hereK_eq hh
  obtain ⟨k1, k2⟩ := same_keys hkeys q.data.toList
  rw [hh] at k2
  have hb := (zIn_ok (zOwn_ok (hT.good _ hz)).2).2.1
  have w : wrap64 ((l[posK pk l q.data.toList]).f2 + 1) = (l[posK pk l q.data.toList]).f2 + 1 := wrap_id (by omega) (by omega)
  refine ⟨posK pk l q.data.toList, hp, _, e, hT.few, hT2.code, ?_, ?_, rfl, rfl, ?_, hv, ?_⟩
  · unfold getR
    rw [if_pos (set_ask hT2 hq), if_pos k2, k1, rd_T32_set hp]
  · unfold getR
    rw [if_pos (set_ask hT hq), if_pos hh, rd_T32_at hp]
  · show (l[posK pk l q.data.toList]).f2 ≠ wrap64 ((l[posK pk l q.data.toList]).f2 + 1)
    rw [w]; omega
  · unfold setR
    rw [if_pos (set_ask hT2 hq)]
    unfold setIn
    rw [if_pos hd, if_pos k2]
    unfold setAt
    rw [k1, rd_T32_set hp, if_neg]
    show ¬ ((l[posK pk l q.data.toList]).f2 = -1 ∨ (l[posK pk l q.data.toList]).f2 = wrap64 ((l[posK pk l q.data.toList]).f2 + 1))
    rw [w]; omega
end Go.Proofs.YtegggpipggniaaaDoor.Pure

/- The draws' numbers: they answer, whatever the code, within what is asked. -/
namespace Go.Proofs.YtegggpipggniaaaDoor.Pure
open Go.RowKit Go.Proofs.YtegggpipggniaaaDoor.Qa Go.Proofs.YtegggpipggniaaaDoorW.PrintWords Go.Proofs.YtegggpipggniaaaDoorW.PrintLast Go.Proofs.YtegggpipggniaaaDoor.Aid
/-- A code that is drawn from. -/
structure CodeT (c : List Int) : Prop where
  byte : ∀ y ∈ c, 0 ≤ y ∧ y ≤ 255
  len : c.length ≤ 1048576
theorem next_is {c : List Int} (hc : CodeT c) (a n : Int) (h0 : 0 ≤ a) (h1 : a ≤ 1000000) (n0 : 1 ≤ n) (n1 : n ≤ 1000000) : ∃ r : Int, spec_l1Next.f c a n = some (r, a + 1) ∧ 0 ≤ r ∧ r < n := by
  have w1 : wrap64 (a + 1) = a + 1 := wrap_id (by omega) (by omega)
  have w2 : wrap64 (a + 1 - 1) = a := by rw [wrap_id (by omega) (by omega)]; omega
  have a1 : ¬ n < 1 := by omega
  have a2 : ¬ n = 0 := by omega
  have hl := hc.len
  unfold spec_l1Next.f
  rw [if_neg a1, w1, w2]
  by_cases hk : (c.length : Int) = 0
  · have w3 : wrap64 (a * 7) = a * 7 := wrap_id (by omega) (by omega)
    rw [if_pos hk, if_neg a2, w3]
    exact ⟨_, rfl, Int.tmod_nonneg _ (by omega), Int.tmod_lt_of_pos _ (by omega)⟩
  · have hp : (0 : Int) < (c.length : Int) := by omega
    have t0 : 0 ≤ Int.tmod a (c.length : Int) := Int.tmod_nonneg _ h0
    have t1 : Int.tmod a (c.length : Int) < (c.length : Int) := Int.tmod_lt_of_pos _ hp
    have u0 : 0 ≤ Int.tmod (a + 1) (c.length : Int) := Int.tmod_nonneg _ (by omega)
    have u1 : Int.tmod (a + 1) (c.length : Int) < (c.length : Int) := Int.tmod_lt_of_pos _ hp
    have t2 : Int.tdiv a (c.length : Int) = a / (c.length : Int) := Int.tdiv_eq_ediv_of_nonneg h0
    have t3 : 0 ≤ a / (c.length : Int) := Int.ediv_nonneg h0 (by omega)
    have t4 : a / (c.length : Int) ≤ a := Int.ediv_le_self _ h0
    rw [if_neg hk, if_pos t0, if_pos t1, t2]
    obtain ⟨j, hj⟩ : ∃ j : Nat, Int.tmod a (c.length : Int) = (j : Int) := ⟨(Int.tmod a (c.length : Int)).toNat, by omega⟩
    obtain ⟨j2, hj2⟩ : ∃ j2 : Nat, Int.tmod (a + 1) (c.length : Int) = (j2 : Int) := ⟨(Int.tmod (a + 1) (c.length : Int)).toNat, by omega⟩
    rw [hj2] at u0 u1
    rw [hj] at t1
    rw [w1, hj2, hj]
    have hjl : j < c.length := by omega
    have hjl2 : j2 < c.length := by omega
    rw [rd_at hjl, rd_at hjl2, if_pos u0, if_pos u1, if_neg a2, if_neg a2]
    obtain ⟨b0, b1⟩ := hc.byte c[j] (List.getElem_mem hjl)
    obtain ⟨d0, d1⟩ := hc.byte c[j2] (List.getElem_mem hjl2)
    generalize c[j] = v at b0 b1 ⊢
    generalize c[j2] = x at d0 d1 ⊢
    generalize a / (c.length : Int) = q at t3 t4 ⊢
    have w3 : wrap64 q = q := wrap_id (by omega) (by omega)
    have w4 : wrap64 (q * 37) = q * 37 := wrap_id (by omega) (by omega)
    have w5 : wrap64 v = v := wrap_id (by omega) (by omega)
    have w6 : wrap64 (v + q * 37) = v + q * 37 := wrap_id (by omega) (by omega)
    have w7 : wrap64 ((v + q * 37) * 251) = (v + q * 37) * 251 := wrap_id (by omega) (by omega)
    have w8 : wrap64 x = x := wrap_id (by omega) (by omega)
    have w9 : wrap64 (x * 13) = x * 13 := wrap_id (by omega) (by omega)
    have w10 : wrap64 ((v + q * 37) * 251 + x * 13) = (v + q * 37) * 251 + x * 13 := wrap_id (by omega) (by omega)
    have w11 : wrap64 ((v + q * 37) * 251 + x * 13 + a) = (v + q * 37) * 251 + x * 13 + a := wrap_id (by omega) (by omega)
    rw [w3, w4, w5, w6, w7, w8, w9, w10, w11]
    by_cases a3 : n > 200
    · rw [if_pos a3]
      exact ⟨_, rfl, Int.tmod_nonneg _ (by omega), Int.tmod_lt_of_pos _ (by omega)⟩
    · rw [if_neg a3]
      exact ⟨_, rfl, Int.tmod_nonneg _ (by omega), Int.tmod_lt_of_pos _ (by omega)⟩
theorem pick_is {c : List Int} (hc : CodeT c) (a : Int) (l : List Int) (h0 : 0 ≤ a) (h1 : a ≤ 1000000) (n0 : 1 ≤ l.length) (n1 : l.length ≤ 1000) : ∃ r : Int, spec_l1Pick.f c a l = some (r, a + 1) ∧ r ∈ l := by
  obtain ⟨r, hr, r0, r1⟩ := next_is hc a (l.length : Int) h0 h1 (by omega) (by omega)
  obtain ⟨j, rfl⟩ : ∃ j : Nat, r = (j : Int) := ⟨r.toNat, by omega⟩
  have hj : j < l.length := by omega
  refine ⟨l[j], ?_, List.getElem_mem hj⟩
  unfold spec_l1Pick.f
  rw [hr, Option.bind_some, if_pos r0, if_pos r1, rd_at hj]
theorem code_of {c : List Int} (h : c.length ≤ 9223372036854775807 ∧ ∀ y_ ∈ c, (Lit.int .u8 y_).wf = true) (hb : ¬ (c.length : Int) > 1048576) : CodeT c := by
  refine ⟨fun y hy => ?_, by omega⟩
  have h' : (decide (IntKind.u8.min ≤ y) && decide (y ≤ IntKind.u8.max)) = true := h.2 y hy
  simp only [Bool.and_eq_true, decide_eq_true_eq] at h'
  exact h'
end Go.Proofs.YtegggpipggniaaaDoor.Pure

/- The draws' chances. -/
namespace Go.Proofs.YtegggpipggniaaaDoor.Pure
open Go.RowKit Go.Proofs.YtegggpipggniaaaDoor.Qa Go.Proofs.YtegggpipggniaaaDoorW.PrintWords Go.Proofs.YtegggpipggniaaaDoorW.PrintLast Go.Proofs.YtegggpipggniaaaDoor.Aid
theorem chance_is {c : List Int} (hc : CodeT c) (a n : Int) (h0 : 0 ≤ a) (h1 : a ≤ 1000000) (n0 : 1 ≤ n) (n1 : n ≤ 1000000) : ∃ b : Bool, spec_l1Chance.f c a n = some (b, a + 1) := by
  obtain ⟨r, hr, _⟩ := next_is hc a n h0 h1 n0 n1
  exact ⟨_, by unfold spec_l1Chance.f; rw [hr, Option.bind_some]⟩
end Go.Proofs.YtegggpipggniaaaDoor.Pure

/- The draws of paths and trees: they answer, whatever the code. -/
namespace Go.Proofs.YtegggpipggniaaaDoor.Pure
open Go.RowKit Go.Proofs.YtegggpipggniaaaDoor.Qa Go.Proofs.YtegggpipggniaaaDoorW.PrintWords Go.Proofs.YtegggpipggniaaaDoorW.PrintLast Go.Proofs.YtegggpipggniaaaDoor.Aid
def abcL : List ByteArray := [(⟨#[97]⟩ : ByteArray), (⟨#[98]⟩ : ByteArray), (⟨#[99]⟩ : ByteArray)]
/-- The paths that are drawn, by their depth. -/
def drawP : Nat → List ByteArray
  | 0 => [(⟨#[47]⟩ : ByteArray)]
  | d + 1 => (drawP d).flatMap fun p => abcL.map fun n => joinR p n
theorem drawP_ok : (drawP 0 ++ drawP 1 ++ drawP 2 ++ drawP 3).all (fun p => decide (faultR p = 0) && decide (p.size ≤ 7)) = true := by decide +kernel
theorem drawP_good {d : Nat} (hd : d ≤ 3) {p : ByteArray} (hp : p ∈ drawP d) : faultR p = 0 ∧ p.size ≤ 7 := by
  have h := List.all_eq_true.1 drawP_ok p (by
    match d, hd with
    | 0, _ => simp [hp]
    | 1, _ => simp [hp]
    | 2, _ => simp [hp]
    | 3, _ => simp [hp])
  rw [Bool.and_eq_true, decide_eq_true_eq, decide_eq_true_eq] at h
  exact h
theorem drawT_l0 {c : List Int} (hc : CodeT c) (d : Nat) : ∀ (j : Nat) (p : ByteArray) (a : Int), j + d ≤ 3 → p ∈ drawP j → 0 ≤ a → a + d ≤ 900000 → ∃ (p' : ByteArray) (b : Int), Ev (fun k => spec_l1Draw.l0 k p (d : Int) c a) (p', b) ∧ p' ∈ drawP (j + d) ∧ a ≤ b ∧ b ≤ a + d := by
  induction d with
  | zero => exact fun j p a _ hp h0 h1 => ⟨p, a, ev_done fun k => by simp only [spec_l1Draw.l0]; rw [if_neg (by omega)], hp, by omega, by omega⟩
  | succ d ih =>
    intro j p a hj hp h0 h1
    obtain ⟨hf, hs⟩ := drawP_good (show j ≤ 3 by omega) hp
    obtain ⟨r, hr, r0, r1⟩ := next_is hc a 3 h0 (by omega) (by omega) (by omega)
    obtain ⟨i, rfl⟩ : ∃ i : Nat, r = (i : Int) := ⟨r.toNat, by omega⟩
    have hi : i < abcL.length := by show i < 3; omega
    have hn : abcL[i] ∈ abcL := List.getElem_mem hi
    have hns : (abcL[i]).size ≤ 1048576 := by
      have : abcL.all (fun n => decide (n.size ≤ 1048576)) = true := by decide
      exact of_decide_eq_true (List.all_eq_true.1 this _ hn)
    have hm : joinR p abcL[i] ∈ drawP (j + 1) := List.mem_flatMap.2 ⟨p, hp, List.mem_map.2 ⟨_, hn, rfl⟩⟩
    obtain ⟨p', b, h2, h3, h4, h5⟩ := ih (j + 1) _ (a + 1) (by omega) hm (by omega) (by omega)
    refine ⟨p', b, ev_step _ (fun k => ?_) h2, by rw [show j + (d + 1) = j + 1 + d by omega]; exact h3, by omega, by omega⟩
    have wd : wrap64 (((d + 1 : Nat) : Int) - 1) = (d : Int) := by rw [wrap_id (by omega) (by omega)]; omega
    have hj2 := join_spec p abcL[i] (by omega) hns
    have hrd : rdOf ByteArray.empty abcL (i : Int) = abcL[i] := rdOf_at hi
    simp only [spec_l1Draw.l0]
    rw [if_pos (by omega), Option.bind_some, hr, Option.bind_some]
    dsimp only
    rw [if_pos r0]
    show (if (i : Int) < (abcL.length : Int) then ((spec_l1Join.f p (rdOf ByteArray.empty abcL (i : Int))).bind fun t109 => spec_l1Draw.l0 k t109 (wrap64 (((d + 1 : Nat) : Int) - 1)) c (a + 1)) else none) = _
    rw [if_pos (show (i : Int) < (abcL.length : Int) by omega), hrd, hj2, Option.bind_some, wd]
theorem drawPath_ev {c : List Int} (hc : CodeT c) (a : Int) (h0 : 0 ≤ a) (h1 : a ≤ 800000) : ∃ (p : ByteArray) (b : Int), Ev (fun k => spec_l1Draw.f k c a) (p, b) ∧ faultR p = 0 ∧ p.size ≤ 7 ∧ a ≤ b ∧ b ≤ a + 4 := by
  obtain ⟨r, hr, r0, r1⟩ := next_is hc a 4 h0 (by omega) (by omega) (by omega)
  obtain ⟨d, rfl⟩ : ∃ d : Nat, r = (d : Int) := ⟨r.toNat, by omega⟩
  obtain ⟨p, b, h2, h3, h4, h5⟩ := drawT_l0 hc d 0 _ (a + 1) (by omega) (List.mem_singleton.2 rfl) (by omega) (by omega)
  obtain ⟨hf, hs⟩ := drawP_good (show 0 + d ≤ 3 by omega) h3
  refine ⟨p, b, ?_, hf, hs, by omega, by omega⟩
  unfold spec_l1Draw.f
  exact ev_cong (fun k => by rw [hr, Option.bind_some]) h2
theorem pick_text (l : List ByteArray) (b : Nat) (hl : ∀ x ∈ l, x.size ≤ b) (r : Int) (h0 : 0 ≤ r) (h1 : r < (l.length : Int)) : (rdOf ByteArray.empty l r).size ≤ b := by
  obtain ⟨j, rfl⟩ : ∃ j : Nat, r = (j : Int) := ⟨r.toNat, by omega⟩
  rw [rdOf_at (by omega)]
  exact hl _ (List.getElem_mem _)
theorem bentPath_ev {c : List Int} (hc : CodeT c) (a : Int) (h0 : 0 ≤ a) (h1 : a ≤ 700000) : ∃ (p : ByteArray) (b : Int), Ev (fun k => spec_l1Bent.f k c a) (p, b) ∧ p.size ≤ 25 ∧ a ≤ b ∧ b ≤ a + 6 := by
  obtain ⟨p, b, h2, h3, h4, h5, h6⟩ := drawPath_ev hc a h0 (by omega)
  obtain ⟨r2, hr2, s0, s1⟩ := next_is hc b 10 (by omega) (by omega) (by omega) (by omega)
  obtain ⟨r3, hr3, u0, u1⟩ := next_is hc (b + 1) 7 (by omega) (by omega) (by omega) (by omega)
  have e1 : (⟨#[47]⟩ : ByteArray).size = 1 := rfl
  unfold spec_l1Bent.f
  by_cases c0 : r2 = 0
  · refine ⟨p ++ (⟨#[47]⟩ : ByteArray), b + 1, ev_call h2 (ev_is fun k => ?_), by rw [cat_size]; omega, by omega, by omega⟩
    dsimp only
    rw [hr2, Option.bind_some, if_pos c0, if_pos (by omega)]
  · by_cases c1 : r2 = 1
    · refine ⟨rdOf ByteArray.empty [(⟨#[]⟩ : ByteArray), (⟨#[97]⟩ : ByteArray), (⟨#[47, 47]⟩ : ByteArray), (⟨#[47, 65]⟩ : ByteArray), (⟨#[47, 97, 47, 98, 47, 99, 47, 100, 47, 101]⟩ : ByteArray), (⟨#[47, 97, 98, 99, 100, 101, 102, 103, 104, 105]⟩ : ByteArray), (⟨#[47, 97, 97, 97, 97, 97, 97, 97, 97, 47, 97, 97, 97, 97, 97, 97, 97, 97, 47, 97, 97, 97, 97, 97, 97]⟩ : ByteArray)] r3, b + 1 + 1, ev_call h2 (ev_is fun k => ?_), pick_text _ 25 (by decide) r3 u0 ?_, by omega, by omega⟩
      · dsimp only
        rw [hr2, Option.bind_some, if_neg c0, if_pos c1, Option.bind_some, hr3, Option.bind_some, if_pos u0, if_pos (by simpa using u1)]
      · simpa using u1
    · refine ⟨p, b + 1, ev_call h2 (ev_is fun k => ?_), by omega, by omega, by omega⟩
      dsimp only
      rw [hr2, Option.bind_some, if_neg c0, if_neg c1]
theorem tRight_l0 {c : List Int} (hc : CodeT c) (d : Nat) : ∀ (n : Nat) (out : List ZZ) (a : Int), GoodT n out → n + d ≤ 20 → 0 ≤ a → a + 12 * d ≤ 600000 → ∃ (x : List ZZ) (b : Int), Ev (fun k => spec_l2Right.l0 k out (d : Int) c a) (x, b) ∧ GoodT (n + d) x ∧ a ≤ b ∧ b ≤ a + 12 * d := by
  induction d with
  | zero => exact fun n out a ho _ h0 h1 => ⟨out, a, ev_done fun k => by simp only [spec_l2Right.l0]; rw [if_neg (by omega)], ho, by omega, by omega⟩
  | succ d ih =>
    intro n out a ho hd h0 h1
    have hlen := ho.few
    have wd : wrap64 (((d + 1 : Nat) : Int) - 1) = (d : Int) := by rw [wrap_id (by omega) (by omega)]; omega
    obtain ⟨p, b, hp, hf, hs, hb0, hb1⟩ := drawPath_ev hc a h0 (by omega)
    obtain ⟨r1, e1, _, _⟩ := next_is hc b 99 (by omega) (by omega) (by omega) (by omega)
    obtain ⟨r2, e2, _⟩ := pick_is hc (b + 1) [0, 0, 1, 2] (by omega) (by omega) (by simp) (by simp)
    obtain ⟨r3, e3⟩ := chance_is hc (b + 1 + 1) 5 (by omega) (by omega) (by omega) (by omega)
    have hC := create_in_spec ho.good ho.rise (by omega) hf r1 r2 r3
    obtain ⟨r4, e4, _, _⟩ := next_is hc (b + 1 + 1 + 1) 6 (by omega) (by omega) (by omega) (by omega)
    obtain ⟨r5, e5, _, _⟩ := next_is hc (b + 1 + 1 + 1 + 1) 99 (by omega) (by omega) (by omega) (by omega)
    have hS := set_in_spec ho.good (by omega) ho.rise p r5 (-1)
    have hD := delete_in_spec ho.good ho.rise (by omega) p (-1)
    have fin : ∀ (l : List ZZ) (e : Int), GoodT (n + 1) l → a ≤ e → e ≤ a + 12 → ∃ (x : List ZZ) (y : Int), Ev (fun k => spec_l2Right.l0 k l (d : Int) c e) (x, y) ∧ GoodT (n + (d + 1)) x ∧ a ≤ y ∧ y ≤ a + 12 * ((d + 1 : Nat) : Int) := by
      intro l e hl he0 he1
      obtain ⟨x, y, q1, q2, q3, q4⟩ := ih (n + 1) l e hl (by omega) (by omega) (by omega)
      exact ⟨x, y, q1, by rw [show n + (d + 1) = n + 1 + d by omega]; exact q2, by omega, by omega⟩
    have up : GoodT (n + 1) out := ho.mono (by omega)
    have first : ∀ R : List ZZ × Int, Ev (fun k => (if r4 = 0 then ((spec_l1Next.f c (b + 1 + 1 + 1 + 1) 99).bind fun bt129 => ((spec_l2Set.f k out p bt129.1 (-1)).bind fun bt131 => (if bt131.1 = 0 then (spec_l2Right.l0 k bt131.2.2 (d : Int) c bt129.2) else (spec_l2Right.l0 k out (d : Int) c bt129.2)))) else (if r4 = 1 then ((spec_l2Delete.f k out p (-1)).bind fun bt136 => (if bt136.1 = 0 then (spec_l2Right.l0 k bt136.2.2 (d : Int) c (b + 1 + 1 + 1 + 1)) else (spec_l2Right.l0 k out (d : Int) c (b + 1 + 1 + 1 + 1)))) else (if (createIn out p r1 r2 r3).1 = 0 then (spec_l2Right.l0 k (createIn out p r1 r2 r3).2.2 (d : Int) c (b + 1 + 1 + 1 + 1)) else (spec_l2Right.l0 k out (d : Int) c (b + 1 + 1 + 1 + 1)))))) R → Ev (fun k => spec_l2Right.l0 k out ((d + 1 : Nat) : Int) c a) R := by
      intro R h
      refine ev_step _ (fun k => by simp only [spec_l2Right.l0]; exact if_pos (by omega)) (ev_call hp ?_)
      refine ev_cong (fun k => by dsimp only; rw [e1, Option.bind_some, e2, Option.bind_some, e3, Option.bind_some]) (ev_call hC ?_)
      refine ev_cong (fun k => by dsimp only; rw [e4, Option.bind_some, wd]) h
    by_cases c0 : r4 = 0
    · by_cases g : (setIn out p r5 (-1)).1 = 0
      · obtain ⟨x, y, q1, q2⟩ := fin (setIn out p r5 (-1)).2.2 (b + 1 + 1 + 1 + 1 + 1) ((setIn_good ho g).mono (by omega)) (by omega) (by omega)
        exact ⟨x, y, first _ (ev_cong (fun k => if_pos c0) (ev_cong (fun k => by rw [e5, Option.bind_some]) (ev_call hS (ev_cong (fun k => if_pos g) q1)))), q2⟩
      · obtain ⟨x, y, q1, q2⟩ := fin out (b + 1 + 1 + 1 + 1 + 1) up (by omega) (by omega)
        exact ⟨x, y, first _ (ev_cong (fun k => if_pos c0) (ev_cong (fun k => by rw [e5, Option.bind_some]) (ev_call hS (ev_cong (fun k => if_neg g) q1)))), q2⟩
    · by_cases c1 : r4 = 1
      · by_cases g : (deleteIn out p (-1)).1 = 0
        · obtain ⟨x, y, q1, q2⟩ := fin (deleteIn out p (-1)).2.2 (b + 1 + 1 + 1 + 1) ((deleteIn_good ho g).mono (by omega)) (by omega) (by omega)
          exact ⟨x, y, first _ (ev_cong (fun k => (if_neg c0).trans (if_pos c1)) (ev_call hD (ev_cong (fun k => if_pos g) q1))), q2⟩
        · obtain ⟨x, y, q1, q2⟩ := fin out (b + 1 + 1 + 1 + 1) up (by omega) (by omega)
          exact ⟨x, y, first _ (ev_cong (fun k => (if_neg c0).trans (if_pos c1)) (ev_call hD (ev_cong (fun k => if_neg g) q1))), q2⟩
      · by_cases g : (createIn out p r1 r2 r3).1 = 0
        · obtain ⟨x, y, q1, q2⟩ := fin (createIn out p r1 r2 r3).2.2 (b + 1 + 1 + 1 + 1) (createIn_good ho hf g) (by omega) (by omega)
          exact ⟨x, y, first _ (ev_cong (fun k => (if_neg c0).trans ((if_neg c1).trans (if_pos g))) q1), q2⟩
        · obtain ⟨x, y, q1, q2⟩ := fin out (b + 1 + 1 + 1 + 1) up (by omega) (by omega)
          exact ⟨x, y, first _ (ev_cong (fun k => (if_neg c0).trans ((if_neg c1).trans (if_neg g))) q1), q2⟩
theorem new_is {r : Int} (h : 0 ≤ r ∧ r ≤ 9999) : spec_NewTree.f r = some (0, (⟨#[]⟩ : ByteArray), [(⟨(⟨#[47]⟩ : ByteArray), r, 0, 0, 0⟩ : ZZ)]) := by
  unfold spec_NewTree.f spec_l2Data.f
  rw [spec_l1In_is, Option.bind_some, Option.bind_some, if_pos (decide_eq_true h)]
theorem new_good {r : Int} (h : 0 ≤ r ∧ r ≤ 9999) : GoodT 1 [(⟨(⟨#[47]⟩ : ByteArray), r, 0, 0, 0⟩ : ZZ)] := by
  refine ⟨by simp, fun z hz => ?_, List.pairwise_singleton _ _, ⟨_, List.mem_singleton.2 rfl, rfl⟩⟩
  rw [List.mem_singleton] at hz
  subst hz
  exact zOwn_of top_fault (zIn_of h ⟨Int.le_refl _, by show (0 : Int) ≤ 999; omega⟩ ⟨Int.le_refl _, by show (0 : Int) ≤ 9; omega⟩ ⟨Int.le_refl _, by show (0 : Int) ≤ 100; omega⟩)
theorem tRight_ev {c : List Int} (hc : CodeT c) (a : Int) (h0 : 0 ≤ a) (h1 : a ≤ 500000) : ∃ (x : List ZZ) (b : Int), Ev (fun k => spec_l2Right.f k c a) (x, b) ∧ GoodT 12 x ∧ a ≤ b ∧ b ≤ a + 140 := by
  obtain ⟨r, e1, r0, r1⟩ := next_is hc a 9 h0 (by omega) (by omega) (by omega)
  obtain ⟨s, e2, s0, s1⟩ := next_is hc (a + 1) 12 (by omega) (by omega) (by omega) (by omega)
  obtain ⟨d, rfl⟩ : ∃ d : Nat, s = (d : Int) := ⟨s.toNat, by omega⟩
  obtain ⟨x, b, hx, hg, hb0, hb1⟩ := tRight_l0 hc d 1 _ (a + 1 + 1) (new_good (r := r) (by omega)) (by omega) (by omega) (by omega)
  refine ⟨x, b, ?_, hg.mono (by omega), by omega, by omega⟩
  unfold spec_l2Right.f
  exact ev_cong (fun k => by rw [e1, Option.bind_some, new_is (by omega), Option.bind_some, e2, Option.bind_some]) hx
theorem tBent_size {c : List Int} (hc : CodeT c) (a : Int) (h0 : 0 ≤ a) (h1 : a ≤ 500000) : ∃ (x : List ZZ) (b : Int), Ev (fun k => spec_l2Bent.f k c a) (x, b) ∧ 1 ≤ x.length ∧ x.length ≤ 21 ∧ (∀ z ∈ x, z.f0.size ≤ 25) ∧ a ≤ b ∧ b ≤ a + 160 := by
  obtain ⟨x, b, hx, hg, hb0, hb1⟩ := tRight_ev hc a h0 h1
  have hs := hg.some
  have hf := hg.few
  obtain ⟨i, ei, i0, i1⟩ := next_is hc b (x.length : Int) (by omega) (by omega) (by omega) (by omega)
  obtain ⟨r, er, _, _⟩ := next_is hc (b + 1) 14 (by omega) (by omega) (by omega) (by omega)
  obtain ⟨p, b2, hp, hp25, hp0, hp1⟩ := bentPath_ev hc (b + 1 + 1) (by omega) (by omega)
  obtain ⟨r1, e1, _⟩ := pick_is hc (b + 1 + 1) [(-1), 10000] (by omega) (by omega) (by simp) (by simp)
  obtain ⟨r2, e2, _⟩ := pick_is hc (b + 1 + 1) [(-1), 999, 1000] (by omega) (by omega) (by simp) (by simp)
  obtain ⟨r3, e3, _⟩ := pick_is hc (b + 1 + 1) [3, 10] (by omega) (by omega) (by simp) (by simp)
  obtain ⟨r4, e4, _⟩ := pick_is hc (b + 1 + 1) [100, 101] (by omega) (by omega) (by simp) (by simp)
  have h24 : ∀ z ∈ x, z.f0.size ≤ 24 := fun z hz => (fault_zero (zOwn_ok (hg.good z hz)).1).1
  have h25 : ∀ z : ZZ, z.f0.size ≤ 25 → ∀ y ∈ x.set i.toNat z, y.f0.size ≤ 25 := fun z hz y hy => by
    rcases List.mem_or_eq_of_mem_set hy with h | h
    · have := h24 y h; omega
    · rw [h]; exact hz
  have hat : (rd_T32 x i).f0.size ≤ 25 := by
    obtain ⟨j, rfl⟩ : ∃ j : Nat, i = (j : Int) := ⟨i.toNat, by omega⟩
    rw [rd_T32_at (show j < x.length by omega)]
    have := h24 _ (List.getElem_mem (show j < x.length by omega))
    omega
  have ln : ∀ z : ZZ, (x.set i.toNat z).length = x.length := fun z => List.length_set
  unfold spec_l2Bent.f
  by_cases c0 : r = 0
  · refine ⟨_, b2, ev_call hx (ev_cong (fun k => by dsimp only; rw [ei, Option.bind_some, er, Option.bind_some, if_pos c0]) (ev_call hp (ev_is fun k => (if_pos i0).trans (if_pos i1)))), ?_, ?_, ?_, by omega, by omega⟩
    · rw [ln]; exact hs
    · rw [ln]; omega
    · exact h25 _ hp25
  by_cases c1 : r = 1
  · refine ⟨_, _, ev_call hx (ev_is fun k => by dsimp only; rw [ei, Option.bind_some, er, Option.bind_some, if_neg c0, if_pos c1, e1, Option.bind_some, if_pos i0, if_pos i1]), ?_, ?_, ?_, by omega, by omega⟩
    · rw [ln]; exact hs
    · rw [ln]; omega
    · exact h25 _ hat
  by_cases c2 : r = 2
  · refine ⟨_, _, ev_call hx (ev_is fun k => by dsimp only; rw [ei, Option.bind_some, er, Option.bind_some, if_neg c0, if_neg c1, if_pos c2, e2, Option.bind_some, if_pos i0, if_pos i1]), ?_, ?_, ?_, by omega, by omega⟩
    · rw [ln]; exact hs
    · rw [ln]; omega
    · exact h25 _ hat
  by_cases c3 : r = 3
  · refine ⟨_, _, ev_call hx (ev_is fun k => by dsimp only; rw [ei, Option.bind_some, er, Option.bind_some, if_neg c0, if_neg c1, if_neg c2, if_pos c3, e3, Option.bind_some, if_pos i0, if_pos i1]), ?_, ?_, ?_, by omega, by omega⟩
    · rw [ln]; exact hs
    · rw [ln]; omega
    · exact h25 _ hat
  by_cases c4 : r = 4
  · refine ⟨_, _, ev_call hx (ev_is fun k => by dsimp only; rw [ei, Option.bind_some, er, Option.bind_some, if_neg c0, if_neg c1, if_neg c2, if_neg c3, if_pos c4, e4, Option.bind_some, if_pos i0, if_pos i1]), ?_, ?_, ?_, by omega, by omega⟩
    · rw [ln]; exact hs
    · rw [ln]; omega
    · exact h25 _ hat
  by_cases c5 : r = 5
  · refine ⟨List.replicate 21 z32, b + 1 + 1, ev_call hx (ev_is fun k => by dsimp only; rw [ei, Option.bind_some, er, Option.bind_some, if_neg c0, if_neg c1, if_neg c2, if_neg c3, if_neg c4, if_pos c5, if_pos (by omega)]), by simp, by simp, fun z hz => by rw [(List.mem_replicate.1 hz).2]; decide, by omega, by omega⟩
  · exact ⟨x, b + 1 + 1, ev_call hx (ev_is fun k => by dsimp only; rw [ei, Option.bind_some, er, Option.bind_some, if_neg c0, if_neg c1, if_neg c2, if_neg c3, if_neg c4, if_neg c5]), hs, by omega, fun z hz => by have := h24 z hz; omega, by omega, by omega⟩
theorem tBent_ev {c : List Int} (hc : CodeT c) (a : Int) (h0 : 0 ≤ a) (h1 : a ≤ 500000) : ∃ (x : List ZZ) (b : Int), Ev (fun k => spec_l2Bent.f k c a) (x, b) ∧ 1 ≤ x.length ∧ x.length ≤ 21 ∧ a ≤ b ∧ b ≤ a + 160 := by
  obtain ⟨x, b, h1, h2, h3, _, h4⟩ := tBent_size hc a h0 h1
  exact ⟨x, b, h1, h2, h3, h4⟩
end Go.Proofs.YtegggpipggniaaaDoor.Pure

/- The draws of a tree with a path: they answer, whatever the code. -/
namespace Go.Proofs.YtegggpipggniaaaDoor.Pure
open Go.RowKit Go.Proofs.YtegggpipggniaaaDoor.Qa Go.Proofs.YtegggpipggniaaaDoorW.PrintWords Go.Proofs.YtegggpipggniaaaDoorW.PrintLast Go.Proofs.YtegggpipggniaaaDoor.Aid
theorem with_ev {c : List Int} (hc : CodeT c) : ∃ r : List ZZ × ByteArray, Ev (fun k => spec_l2With.f k c) r := by
  obtain ⟨x, b, hx, hs, hf, hb0, hb1⟩ := tBent_ev hc 0 (by omega) (by omega)
  obtain ⟨t, ht⟩ := chance_is hc b 2 (by omega) (by omega) (by omega) (by omega)
  have h2 : ∃ r : List ZZ × ByteArray, Ev (fun k => spec_l2With.j0 k x t c (b + 1)) r := by
    cases t with
    | true =>
      obtain ⟨i, ei, i0, i1⟩ := next_is hc (b + 1) (x.length : Int) (by omega) (by omega) (by omega) (by omega)
      exact ⟨_, ev_done fun k => by simp only [spec_l2With.j0]; rw [if_pos trivial, ei, Option.bind_some]; dsimp only; rw [if_pos i0, if_pos i1]⟩
    | false =>
      obtain ⟨p, b2, hp, _, _, _⟩ := bentPath_ev hc (b + 1) (by omega) (by omega)
      exact ⟨(x, p), ev_step _ (fun k => by simp only [spec_l2With.j0]; exact if_neg (by simp)) (ev_call hp (Ev.now _))⟩
  obtain ⟨r, hr⟩ := h2
  refine ⟨r, ?_⟩
  unfold spec_l2With.f spec_l1Source.f
  exact ev_cong (fun k => by rw [Option.bind_some]) (ev_call hx (ev_cong (fun k => by dsimp only; rw [if_pos (by omega), ht, Option.bind_some]) hr))
theorem drawDelete_ev {c : List Int} (hc : CodeT c) : ∃ r : List ZZ × ByteArray × Int, Ev (fun k => spec_DrawDeleteZ.f k c) r := by
  obtain ⟨⟨x, p⟩, hx⟩ := with_ev hc
  obtain ⟨v, ev, _⟩ := pick_is hc 33 [(-1), 0, 1, (-2)] (by omega) (by omega) (by simp) (by simp)
  refine ⟨(x, p, v), ?_⟩
  unfold spec_DrawDeleteZ.f spec_l1Later.f
  exact ev_call hx (ev_is fun k => by
    have w : wrap64 (5 + wrap64 (7 * 4)) = 33 := by rw [wrap_id (x := 7 * 4) (by omega) (by omega), wrap_id (by omega) (by omega)]; omega
    rw [Option.bind_some]
    dsimp only
    rw [w, ev, Option.bind_some])
end Go.Proofs.YtegggpipggniaaaDoor.Pure

/- FnSets: what is set is got, of the next version, and nothing else turns: for every code. No condition. -/
namespace Go.Proofs.YtegggpipggniaaaDoor.Pure
open Go.RowKit Go.Proofs.YtegggpipggniaaaDoor.Qa Go.Proofs.YtegggpipggniaaaDoorW.PrintWords Go.Proofs.YtegggpipggniaaaDoorW.PrintLast Go.Proofs.YtegggpipggniaaaDoor.Aid
theorem drawSet_ev {c : List Int} (hc : CodeT c) : ∃ r : List ZZ × ByteArray × Int × Int, Ev (fun k => spec_DrawSetZ.f k c) r := by
  obtain ⟨⟨x, p, v⟩, hx⟩ := drawDelete_ev hc
  obtain ⟨n, en, _, _⟩ := next_is hc 40 99 (by omega) (by omega) (by omega) (by omega)
  obtain ⟨d, ed, _⟩ := pick_is hc (40 + 1) [n, 9999, 10000] (by omega) (by omega) (by simp) (by simp)
  refine ⟨(x, p, d, v), ?_⟩
  unfold spec_DrawSetZ.f spec_l1Later.f
  exact ev_call hx (ev_is fun k => by
    have w : wrap64 (5 + wrap64 (7 * 5)) = 40 := by rw [wrap_id (x := 7 * 5) (by omega) (by omega), wrap_id (by omega) (by omega)]; omega
    rw [Option.bind_some]
    dsimp only
    rw [w, en, Option.bind_some]
    dsimp only
    rw [ed, Option.bind_some])
def neNode (x y : ZZ) : Bool := (!((x.f0).toList == (y.f0).toList) || (!(x.f1 == y.f1) || (!(x.f2 == y.f2) || (!(x.f3 == y.f3) || (!(x.f4 == y.f4))))))
theorem neNode_self (x : ZZ) : neNode x x = false := by unfold neNode; simp
theorem neNode_other {x y : ZZ} (h : x.f2 ≠ y.f2) : neNode x y = true := by unfold neNode; rw [show (x.f2 == y.f2) = false from beq_eq_false_iff_ne.2 h]; simp
theorem sets_l0 {l : List ZZ} {p : Nat} (hp : p < l.length) {z : ZZ} (hl : l.length ≤ 20) (ht : treeR (l.set p z) = 0) (hw : wrap64 ((l[p]).f2 + 1) = z.f2) (hne : (l[p]).f2 ≠ z.f2) {v : Int} (hv : v = -1 ∨ v = (l[p]).f2) (d : Nat) : ∀ (i : Nat), i + d = l.length → Ev (fun k => laws_FnSets.l0 k l z.f1 v (if i ≤ p then 0 else 1) (i : Int) 0 (⟨#[]⟩ : ByteArray) (l.set p z) 0 (⟨#[]⟩ : ByteArray) [z] 0 (⟨#[]⟩ : ByteArray) [l[p]] 7 (⟨#[]⟩ : ByteArray) []) true := by
  have hs : (l.set p z).length = l.length := List.length_set
  induction d with
  | zero =>
    intro i h
    have hT := treeR_impl (l.set p z)
    rw [ht] at hT
    refine ev_step _ (fun k => by simp only [laws_FnSets.l0]; exact if_neg (by omega)) (ev_step _ (fun k => by simp only [laws_FnSets.j5]; exact if_neg (by simp)) (ev_call hT (ev_cong (fun k => if_pos rfl) (ev_is fun k => ?_))))
    rw [hs]
    have z0 : rd_T32 [z] 0 = z := rfl
    have y0 : rd_T32 [l[p]] 0 = l[p] := rfl
    rw [z0, y0, if_neg (show ¬ i ≤ p by omega)]
    have q1 : (0 : Int) < (([z] : List ZZ).length : Int) := by simp
    have q2 : (0 : Int) < (([l[p]] : List ZZ).length : Int) := by simp
    rw [if_pos q1, if_pos rfl, if_pos q2, if_pos hw.symm]
    by_cases c : v = -1
    · rw [if_pos c]; simp
    · rw [if_neg c, if_pos (hv.resolve_left c)]; simp
  | succ d ih =>
    intro i h
    have hi : i < l.length := by omega
    have hi2 : i < (l.set p z).length := by omega
    have IH := ih (i + 1) (by omega)
    have wi := wrap_up hi (by omega)
    refine ev_step (fun k => laws_FnSets.j5 k l z.f1 v (if i ≤ p then 0 else 1) (i : Int) true 0 (⟨#[]⟩ : ByteArray) (l.set p z) 0 (⟨#[]⟩ : ByteArray) [z] 0 (⟨#[]⟩ : ByteArray) [l[p]] 7 (⟨#[]⟩ : ByteArray) []) (fun k => by
      simp only [laws_FnSets.l0]
      rw [if_pos (by omega), decide_eq_true (show (i : Int) < ((l.set p z).length : Int) by omega)]) ?_
    refine ev_step (fun k => if neNode (rd_T32 l (i : Int)) (rd_T32 (l.set p z) (i : Int)) = true then (laws_FnSets.l0 k l z.f1 v (wrap64 ((if i ≤ p then 0 else 1) + 1)) ((i + 1 : Nat) : Int) 0 (⟨#[]⟩ : ByteArray) (l.set p z) 0 (⟨#[]⟩ : ByteArray) [z] 0 (⟨#[]⟩ : ByteArray) [l[p]] 7 (⟨#[]⟩ : ByteArray) []) else (laws_FnSets.l0 k l z.f1 v (if i ≤ p then 0 else 1) ((i + 1 : Nat) : Int) 0 (⟨#[]⟩ : ByteArray) (l.set p z) 0 (⟨#[]⟩ : ByteArray) [z] 0 (⟨#[]⟩ : ByteArray) [l[p]] 7 (⟨#[]⟩ : ByteArray) [])) (fun k => by
      simp only [laws_FnSets.j5]
      rw [if_pos trivial, if_pos (by omega), if_pos (by omega), if_pos (by omega), wi]
      rfl) ?_
    rw [rd_T32_at hi, rd_T32_at hi2, List.getElem_set]
    by_cases c : p = i
    · subst c
      rw [if_pos rfl, if_pos (Nat.le_refl p)]
      rw [if_neg (show ¬ p + 1 ≤ p by omega)] at IH
      have w1 : wrap64 (0 + 1) = 1 := wrap_id (by omega) (by omega)
      rw [w1]
      exact ev_cong (fun k => if_pos (neNode_other hne)) IH
    · rw [if_neg c]
      refine ev_cong (fun k => if_neg (by rw [neNode_self]; decide)) ?_
      have e : (if i + 1 ≤ p then (0 : Int) else 1) = if i ≤ p then 0 else 1 := by
        by_cases c2 : i ≤ p
        · rw [if_pos c2, if_pos (by omega)]
        · rw [if_neg c2, if_neg (by omega)]
      rw [e] at IH
      exact IH
theorem FnSets (l0 : List Int) (h : l0.length ≤ 9223372036854775807 ∧ ∀ y_ ∈ l0, (Lit.int .u8 y_).wf = true) : ∃ k, laws_FnSets.f k l0 = some true := by
  refine Ev.rounds ?_
  unfold laws_FnSets.f laws_lwBig.f
  by_cases hb : (l0.length : Int) > 1048576
  · exact ev_is fun k => by rw [Option.bind_some, if_pos (decide_eq_true hb)]
  · refine ev_cong (fun k => by rw [Option.bind_some, if_neg (by simpa using hb)]) ?_
    obtain ⟨⟨l, q, d, v⟩, hd⟩ := drawSet_ev (code_of h hb)
    refine ev_step _ (fun k => by simp only [laws_FnSets.j0]; rfl) (ev_call hd (ev_call (SetZ_impl l q d v) ?_))
    by_cases g : (setR l q d v).1 = 0
    · refine ev_cong (fun k => if_pos g) ?_
      obtain ⟨p, hp, z, e, hl, ht, g1, g2, e1, hw, hne, hv, ho⟩ := set_told g
      have hG := GetZ_impl (l.set p z) q
      have hG2 := GetZ_impl l q
      have hS := SetZ_impl (l.set p z) q d (l[p]).f2
      rw [g1] at hG
      rw [g2] at hG2
      rw [ho] at hS
      rw [e]
      subst e1
      refine ev_step _ (fun k => by simp only [laws_FnSets.j1]; rfl) (ev_call hG (ev_call hG2 ?_))
      refine ev_cong (fun k => (if_pos rfl).trans (if_pos rfl)) ?_
      refine ev_step _ (fun k => by simp only [laws_FnSets.j2]; exact if_neg (by simp)) ?_
      refine ev_step _ (fun k => by simp only [laws_FnSets.j3]; exact if_pos (by simp)) (ev_call hS ?_)
      have := sets_l0 hp hl ht hw hne hv l.length 0 (by omega)
      rw [if_pos (Nat.zero_le p)] at this
      exact this
    · exact ev_cong (fun k => if_neg g) (ev_call (SetZ_spec l q d v) (ev_is fun k => by simp))
end Go.Proofs.YtegggpipggniaaaDoor.Pure

/- For every input the law loop.example/g00369/laws.FnSets returns true, and every argument reads behind the call as it read before. No condition. -/
namespace Go.Proofs.YtegggpipggniaaaDoor.fnSets
open Go.ChangeShapes Go.WideShapes Go.ChangeAt Go.RowKit Go.Proofs.YtegggpipggniaaaDoor.Qa Go.Proofs.YtegggpipggniaaaDoor.Tro Go.Proofs.YtegggpipggniaaaDoorW.PrintWords
open Go.ChangeMaps (open_string shut_string)
set_option linter.unusedVariables false
set_option linter.unusedSimpArgs false
theorem own : ownKnob Tryd.prog.godebug = none := by kernel_rfl
theorem laidOut : laidOutB Tryd.prog = true := by kernel_rfl
set_option maxRecDepth 100000 in
theorem lifted (os : Os) (started : os.Started) (H : Type) (enc : TypeId × Value → H) :
    ReturnsInHanded {} Tryd.checked os 3 .any (fun w args => (Rows.fnSetsSpec.pre enc Tryd.prog Tryd.f3 [] false w args ∧ laidMetH Tryd.prog Rows.fnSetsRow.laid w) ∧ sizedMet enc Tryd.prog Tryd.f3 (OpenSpec.ofChange Rows.fnSetsSpec) false w args) (Rows.fnSetsSpec.post enc Tryd.prog Tryd.f3 false true false false) := by
  refine returnsInHanded_of_change_and (C := Tryd.checked) (X := fun w _ => laidMetH Tryd.prog Rows.fnSetsRow.laid w) (fun _ _ _ hh h => h.of_heap hh) own started (by kernel_rfl) Tryd.func3
    (ChangeSpec.witness_shaped (enc := enc) (C := Tryd.checked) (os := os) (X := fun w _ => laidMetH Tryd.prog Rows.fnSetsRow.laid w) false (World.laidAll Tryd.prog os Rows.fnSetsRow.laid) #[.slice none 0 0] 8 (World.laidAll_os _ _ _)
      (World.shaped_of_ZipB (by kernel_rfl) (by kernel_rfl)) (by kernel_rfl) (by kernel_rfl) (by kernel_rfl)
      (by rw [MakeChecks.laidMetH_plain _ _ _ (by kernel_rfl)]; exact laidMet_laidAll _ (by kernel_rfl) (by kernel_rfl))) ?_
  intro W base args ds gs before hval0 hW _ _ hL _
  have hval : ∀ (j : Nat) t v, Tryd.f3.params[j]? = some t → args[j]? = some v → Value.okWide Tryd.prog W .any base t v := hval0
  have hW' := hW
  obtain ⟨p, q, hA0, hV, rfl, hfz, hnd⟩ := hW
  have hA : DataW.TrodAll enc Tryd.prog W 0 (fun _ => true) true Tryd.f3.params.toList args.toList ds p := hA0
  rw [Tryd.params3] at hA hval
  obtain ⟨v0, vs0, d0, ds0, p0, q0, hargs, rfl, rfl, h0, r0⟩ := trodAll_cons hA
  obtain ⟨rfl, rfl, rfl⟩ := trodAll_nil r0
  obtain rfl : args = #[v0] := by cases args; simp_all
  obtain ⟨rfl, rfl⟩ := trodVars_none hV
  have k0 := h0
  have lt0 : ∀ x ∈ p0, x.block < W.heap.size := by obtain ⟨m, hm⟩ := k0; exact DataW.trod_lt m _ _ _ hm
  obtain ⟨a0, len0, cap0, rfl⟩ := okWide_slice Tryd.underlying22 (hval 0 22 v0 rfl rfl)
  obtain ⟨fuel0, hf0⟩ := h0
  obtain ⟨l0, hK0, hg0⟩ := (tr_slice Tryd.underlying22 (by kernel_rfl) (tr_int Tryd.underlying5)) enc W _ _ _ hf0
  obtain ⟨A0, c0, hcs0, hl0, hC0⟩ := hK0
  simp only [Value.cells, List.cons.injEq, Value.slice.injEq, and_true] at hcs0
  obtain ⟨rfl, rfl, rfl⟩ := hcs0
  obtain ⟨k, hk⟩ := Pure.FnSets l0 hg0
  refine (laws_FnSets.calls k _ _ l0 true W hC0 hl0 hk rfl).mono fun e W' hE => ?_
  obtain ⟨he, hd⟩ := hE
  have bel : Below W.heap.size W W' := hd
  subst he
  exact ⟨_, rfl, _, _, _, [], _, [], hW', trodAll_mk1 (shut_bool Tryd.underlying4 _), (trodAll_cons_mk (Below.trod laidOut (by kernel_rfl) (of_decide_eq_true (by kernel_rfl)) k0 bel lt0) trodAll_mk0), rfl, bel.frame _, fun h => by cases h⟩
theorem over : Rows.fnSetsRow.holds Tryd.pinned (OpenSpec.ofChange Rows.fnSetsSpec) :=
  OpenClaim.holds_of_wide 3 Tryd.f3 rfl rfl rfl rfl rfl rfl rfl ⟨rfl, rfl, rfl, rfl, rfl⟩ rfl rfl rfl rfl rfl (by kernel_rfl) Tryd.func3 (by kernel_rfl)
    (of_decide_eq_true (by kernel_rfl)) (by unfold Func.isWrapper; first | (rw [if_pos (by decide +kernel)]; kernel_rfl) | (rw [if_neg (by decide +kernel)]; exact ⟨rfl, rfl⟩))
    (fun os started H enc _ => lifted os started H enc)
theorem proved : Rows.FnSetsCardSaid :=
  Claim7.holds_tied_plain_at .later [] [.data, .pinned] true (true, "2b81480798c3f0b7d67b11edbf9be1c3fc7cd79846c4b98bf35eb11722974916") false over (fun _ h => by cases h) (by kernel_rfl) (fun _ h => by cases h) fnSets_row_tie rfl ⟨rfl, rfl⟩ (by kernel_rfl) rfl
    (fun f fn hf hfn => by
      obtain rfl : f = 3 := Option.some.inj ((show Tryd.prog.funcNamed "loop.example/g00369/laws.FnSets" = some 3 by kernel_rfl).symm.trans hf) |>.symm
      obtain rfl : fn = Tryd.f3 := (Option.some.inj (Tryd.func3.symm.trans hfn)).symm
      exact ⟨by kernel_rfl, fun j t ht => by
        rw [Tryd.params3] at ht
        have hm : t ∈ [22] := by simpa using Array.mem_of_getElem? ht
        have hall : ([22].all fun u => !Tryd.prog.wantsStandIn u) = true := by kernel_rfl
        exact (show Tryd.prog.wantsStandIn t = false by simpa using List.all_eq_true.1 hall t hm)⟩)
    (by kernel_rfl)
#print axioms proved
end Go.Proofs.YtegggpipggniaaaDoor.fnSets
namespace Go.Proofs.YtegggpipggniaaaDoor
/-- The row, under a short name, for the claim. -/
theorem fnSets_holds : Rows.FnSetsCardSaid := fnSets.proved
end Go.Proofs.YtegggpipggniaaaDoor
