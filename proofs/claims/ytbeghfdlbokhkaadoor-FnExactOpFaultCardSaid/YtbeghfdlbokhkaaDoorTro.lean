/- Arguments laid open: what a value of a type holds in memory, by the print's kinds; for every type that is met here. -/
import Derived.Test.YtbeghfdlbokhkaaDoorWWords
import Derived.Deep.Slices
import Derived.ChangeArms
namespace Go.Proofs.YtbeghfdlbokhkaaDoor.Tro
open Go.ChangeShapes Go.WideShapes Go.RowKit Go.Deep Go.Proofs.YtbeghfdlbokhkaaDoorW.PrintWords

/-- What can be read as data of type T holds a value of this kind, of which 'good' is so. -/
def Tr {α : Type} (P : Program) (k : Kd α) (T : TypeId) (good : α → Prop) : Prop :=
  ∀ {H : Type} (enc : TypeId × Value → H) (w : World) (fuel : Nat) (cs : List Value) (x : DataW H × List MemPlace), DataW.trod enc P w 0 (fun _ => true) true fuel T cs = some x → ∃ a : α, k.K w a cs ∧ good a
theorem tr_int {P : Program} {T : TypeId} {k : IntKind} (h : P.underlying T = some (.int k)) : Tr P (Kd.int k) T (fun a => (Lit.int k a).wf = true) := by
  intro H enc w fuel cs x hx
  obtain ⟨n, rfl, _, hw⟩ := DataW.trod_int h hx
  exact ⟨n, rfl, hw⟩
theorem tr_bool {P : Program} {T : TypeId} (h : P.underlying T = some .bool) : Tr P Kd.bool T (fun _ => True) := by
  intro H enc w fuel cs x hx
  obtain ⟨b, rfl, _⟩ := DataW.trod_bool h hx
  exact ⟨b, rfl, trivial⟩
theorem tr_string {P : Program} {T : TypeId} (h : P.underlying T = some .string) : Tr P Kd.string T (fun s => s.size ≤ 9223372036854775807) := by
  intro H enc w fuel cs x hx
  obtain ⟨s, rfl, _, hs⟩ := DataW.trod_string h hx
  exact ⟨s, rfl, hs⟩
theorem choose_list {α : Type} {p : Nat → α → Prop} : ∀ n : Nat, (∀ i, i < n → ∃ a, p i a) → ∃ xs : List α, xs.length = n ∧ ∀ i a, xs[i]? = some a → p i a
  | 0, _ => ⟨[], rfl, fun i a h => by simp at h⟩
  | n + 1, h => by
    obtain ⟨xs, hl, hx⟩ := choose_list n (fun i hi => h i (by omega))
    obtain ⟨a, ha⟩ := h n (by omega)
    refine ⟨xs ++ [a], by simp [hl], fun i b hb => ?_⟩
    rcases Nat.lt_or_ge i xs.length with hi | hi
    · rw [List.getElem?_append_left hi] at hb
      exact hx i b hb
    · rw [List.getElem?_append_right hi] at hb
      have hi' : i = xs.length := by
        rcases Nat.eq_or_lt_of_le hi with e | e
        · exact e.symm
        · rw [List.getElem?_eq_none (by simp; omega)] at hb
          cases hb
      subst hi'
      rw [Nat.sub_self] at hb
      cases hb
      rw [hl]
      exact ha
theorem tr_slice {α : Type} {P : Program} {T e : TypeId} {d : Kd α} {good : α → Prop} (h : P.underlying T = some (.slice e)) (hz : d.sz = P.cellsOf e) (he : Tr P d e good) :
    Tr P (Kd.slice e d) T (fun xs => xs.length ≤ 9223372036854775807 ∧ ∀ x ∈ xs, good x) := by
  intro H enc w fuel cs x hx
  rcases open_slice h hx with ⟨rfl, _⟩ | ⟨a, len, cap, m, n, D, Pl, rfl, _, hl, hm, hmm, _, hi⟩
  · exact ⟨[], ⟨none, 0, rfl, Nat.le_refl _, rfl, Nat.zero_le _, fun h0 => absurd h0 (Nat.lt_irrefl 0)⟩, Nat.zero_le _, fun x hx => by simp at hx⟩
  · have hmc : m = cap := by simpa using hmm
    have hcap : cap ≤ 9223372036854775807 := hm
    obtain ⟨xs, hxl, hxs⟩ := choose_list (p := fun i b => (∃ c, c.length = d.sz ∧ d.K w b c ∧ ∀ j u, c[j]? = some u → w.cell? (a.add (i * d.sz + j)) = some u) ∧ good b) len (fun i hil => by
      obtain ⟨cs', hc, ht⟩ := hi i (by omega)
      obtain ⟨b, hb, hg⟩ := he enc w n cs' _ ht
      refine ⟨b, ⟨cs', d.K_len hb, hb, fun j u hu => ?_⟩, hg⟩
      obtain ⟨_, hcl, hat⟩ := World.cells?_some hc
      have hj : j < P.cellsOf e := by rw [← hcl]; exact (List.getElem?_eq_some_iff.1 hu).1
      have := hat j hj
      rw [hz, ← Go.Deep.add_add, this, hu])
    refine ⟨xs, ⟨some a, cap, by rw [hxl], by omega, rfl, by omega, fun _ => ⟨a, rfl, fun j p hp => (hxs j p hp).1⟩⟩, by omega, fun b hb => ?_⟩
    obtain ⟨i, hil, he⟩ := List.getElem_of_mem hb
    exact (hxs i b (by rw [← he]; exact List.getElem?_eq_getElem hil)).2
end Go.Proofs.YtbeghfdlbokhkaaDoor.Tro
