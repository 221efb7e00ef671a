/- For every input the law FnExactSameStates returns true, and every argument reads behind the call as it read before: no condition. Here: the last part, the theorem in it. -/
import Derived.Test.YtlfhpljeeedbdaaWWords
import Derived.Deep.Slices
import Derived.ChangeArms
import Derived.Test.YtlfhpljeeedbdaaQbx0
import Derived.Test.YtlfhpljeeedbdaaQbx13
import Derived.Test.YtlfhpljeeedbdaaQbx14
import Derived.Test.YtlfhpljeeedbdaaQbx15
import Derived.Test.YtlfhpljeeedbdaaQbx16
import Derived.Test.YtlfhpljeeedbdaaQbx17
import Derived.Test.YtlfhpljeeedbdaaQbx18
import Derived.Test.YtlfhpljeeedbdaaQbx19
import Derived.Test.YtlfhpljeeedbdaaQbx25
import Derived.Test.YtlfhpljeeedbdaaQbx26
import Derived.Test.YtlfhpljeeedbdaaQbx27
import Derived.Test.YtlfhpljeeedbdaaQbx28
import Derived.Test.YtlfhpljeeedbdaaQbx29
import Derived.Test.YtlfhpljeeedbdaaQbx30
import Derived.Test.YtlfhpljeeedbdaaQbx31
import Derived.Test.YtlfhpljeeedbdaaQbx4
import Derived.Test.YtlfhpljeeedbdaaQbx5
import Derived.Test.YtlfhpljeeedbdaaQbx6
import Derived.Test.YtlfhpljeeedbdaaQbx7
import Derived.Test.YtlfhpljeeedbdaaQbx8
import Derived.Test.YtlfhpljeeedbdaaQbx9
import Derived.Test.YtlfhpljeeedbdaaQbx11
import Derived.Test.YtlfhpljeeedbdaaQbx12
import Derived.Test.YtlfhpljeeedbdaaQbx21
import Derived.Test.YtlfhpljeeedbdaaQbx22
import Derived.Test.YtlfhpljeeedbdaaQbx23
import Derived.Test.YtlfhpljeeedbdaaQbx24
import Derived.Test.YtlfhpljeeedbdaaQbx10
import Derived.Test.YtlfhpljeeedbdaaQbx20
import Derived.Test.YtlfhpljeeedbdaaQbx32
import Derived.Test.YtlfhpljeeedbdaaQbx33
import Derived.Test.YtlfhpljeeedbdaaRows
import Derived.WalkKit
import Derived.ProofKit
import Derived.OpenShut
import Derived.ShutString
import Derived.ChangeOld
import Derived.Below
import Derived.SizedLaws
/- Arguments laid open: what a value of a type holds in memory, by the print's kinds; for every type that is met here. -/
namespace Go.Proofs.Ytlfhpljeeedbdaa.Tro
open Go.ChangeShapes Go.WideShapes Go.RowKit Go.Deep Go.Proofs.YtlfhpljeeedbdaaW.PrintWords

/-- What can be read as data of type T holds a value of this kind, of which 'good' is so. -/
def Tr {α : Type} (P : Program) (k : Kd α) (T : TypeId) (good : α → Prop) : Prop :=
  ∀ {H : Type} (enc : TypeId × Value → H) (w : World) (fuel : Nat) (cs : List Value) (x : DataW H × List MemPlace), DataW.trod enc P w 0 (fun _ => true) true fuel T cs = some x → ∃ a : α, k.K w a cs ∧ good a
theorem tr_int {P : Program} {T : TypeId} {k : IntKind} (h : P.underlying T = some (.int k)) : Tr P (Kd.int k) T (fun a => (Lit.int k a).wf = true) := by
  intro H enc w fuel cs x hx
  obtain ⟨n, rfl, _, hw⟩ := DataW.trod_int h hx
  exact ⟨n, rfl, hw⟩
theorem tr_bool {P : Program} {T : TypeId} (h : P.underlying T = some .bool) : Tr P Kd.bool T (fun _ => True) := by
  intro H enc w fuel cs x hx
  obtain ⟨b, rfl, _⟩ := DataW.trod_bool h hx
  exact ⟨b, rfl, trivial⟩
theorem tr_string {P : Program} {T : TypeId} (h : P.underlying T = some .string) : Tr P Kd.string T (fun s => s.size ≤ 9223372036854775807) := by
  intro H enc w fuel cs x hx
  obtain ⟨s, rfl, _, hs⟩ := DataW.trod_string h hx
  exact ⟨s, rfl, hs⟩
theorem choose_list {α : Type} {p : Nat → α → Prop} : ∀ n : Nat, (∀ i, i < n → ∃ a, p i a) → ∃ xs : List α, xs.length = n ∧ ∀ i a, xs[i]? = some a → p i a
  | 0, _ => ⟨[], rfl, fun i a h => by simp at h⟩
  | n + 1, h => by
    obtain ⟨xs, hl, hx⟩ := choose_list n (fun i hi => h i (by omega))
    obtain ⟨a, ha⟩ := h n (by omega)
    refine ⟨xs ++ [a], by simp [hl], fun i b hb => ?_⟩
    rcases Nat.lt_or_ge i xs.length with hi | hi
    · rw [List.getElem?_append_left hi] at hb
      exact hx i b hb
    · rw [List.getElem?_append_right hi] at hb
      have hi' : i = xs.length := by
        rcases Nat.eq_or_lt_of_le hi with e | e
        · exact e.symm
        · rw [List.getElem?_eq_none (by simp; omega)] at hb
          cases hb
      subst hi'
      rw [Nat.sub_self] at hb
      cases hb
      rw [hl]
      exact ha
theorem tr_slice {α : Type} {P : Program} {T e : TypeId} {d : Kd α} {good : α → Prop} (h : P.underlying T = some (.slice e)) (hz : d.sz = P.cellsOf e) (he : Tr P d e good) :
    Tr P (Kd.slice e d) T (fun xs => xs.length ≤ 9223372036854775807 ∧ ∀ x ∈ xs, good x) := by
  intro H enc w fuel cs x hx
  rcases open_slice h hx with ⟨rfl, _⟩ | ⟨a, len, cap, m, n, D, Pl, rfl, _, hl, hm, hmm, _, hi⟩
  · exact ⟨[], ⟨none, 0, rfl, Nat.le_refl _, rfl, Nat.zero_le _, fun h0 => absurd h0 (Nat.lt_irrefl 0)⟩, Nat.zero_le _, fun x hx => by simp at hx⟩
  · have hmc : m = cap := by simpa using hmm
    have hcap : cap ≤ 9223372036854775807 := hm
    obtain ⟨xs, hxl, hxs⟩ := choose_list (p := fun i b => (∃ c, c.length = d.sz ∧ d.K w b c ∧ ∀ j u, c[j]? = some u → w.cell? (a.add (i * d.sz + j)) = some u) ∧ good b) len (fun i hil => by
      obtain ⟨cs', hc, ht⟩ := hi i (by omega)
      obtain ⟨b, hb, hg⟩ := he enc w n cs' _ ht
      refine ⟨b, ⟨cs', d.K_len hb, hb, fun j u hu => ?_⟩, hg⟩
      obtain ⟨_, hcl, hat⟩ := World.cells?_some hc
      have hj : j < P.cellsOf e := by rw [← hcl]; exact (List.getElem?_eq_some_iff.1 hu).1
      have := hat j hj
      rw [hz, ← Go.Deep.add_add, this, hu])
    refine ⟨xs, ⟨some a, cap, by rw [hxl], by omega, rfl, by omega, fun _ => ⟨a, rfl, fun j p hp => (hxs j p hp).1⟩⟩, by omega, fun b hb => ?_⟩
    obtain ⟨i, hil, he⟩ := List.getElem_of_mem hb
    exact (hxs i b (by rw [← he]; exact List.getElem?_eq_getElem hil)).2
end Go.Proofs.Ytlfhpljeeedbdaa.Tro

-- By gp.py (wip/gen of the work's repo), a program of this workplace over the kit's print: Lean checks it.
namespace Go.Proofs.Ytlfhpljeeedbdaa.Qb
open Go.RowKit Go.Proofs.YtlfhpljeeedbdaaW.PrintWords Go.Proofs.YtlfhpljeeedbdaaW.PrintLast Go.Proofs.YtlfhpljeeedbdaaW.PrintMore Go.ChangeShapes Go.WideShapes Go.Proofs.Ytlfhpljeeedbdaa.Tro
attribute [local go_sem] max2_int min2_int max_two min_two max_three min_three max_four min_four   -- for this text's walks alone
set_option linter.unusedVariables false
set_option linter.unusedSimpArgs false

def g60 (x_ : S60) : Prop := (x_.f0.size ≤ 9223372036854775807) ∧ ((Lit.int .i64 x_.f1).wf = true) ∧ ((Lit.int .i64 x_.f2).wf = true) ∧ ((Lit.int .i64 x_.f3).wf = true) ∧ ((Lit.int .i64 x_.f4).wf = true)
set_option maxRecDepth 100000 in
theorem tr60 : Tr Try.prog k60 60 g60 := by
  intro H enc w fuel cs x hx
  obtain ⟨ys, n, _, _, hlen, hyl, hf⟩ := DataW.trod_struct Try.underlying60 hx
  have hl : cs.length = 5 := hlen.trans (by kernel_rfl)
  have hy : ys.length = 5 := hyl
  clear hlen hyl hx
  match cs, hl with
  | [c0, c1, c2, c3, c4], _ =>
    have q0 : DataW.trod enc Try.prog w 0 (fun _ => true) true n 9 ((([c0, c1, c2, c3, c4] : List Value).drop 0).take (Try.prog.cellsOf 9)) = ys[0]? := hf 0 _ rfl
    rw [show Try.prog.cellsOf 9 = 1 from by kernel_rfl] at q0
    rw [List.getElem?_eq_getElem (show 0 < ys.length by omega)] at q0
    obtain ⟨a0, h0, g0⟩ := (tr_string Try.underlying9) enc w n [c0] _ q0
    have q1 : DataW.trod enc Try.prog w 0 (fun _ => true) true n 2 ((([c0, c1, c2, c3, c4] : List Value).drop 1).take (Try.prog.cellsOf 2)) = ys[1]? := hf 1 _ rfl
    rw [show Try.prog.cellsOf 2 = 1 from by kernel_rfl] at q1
    rw [List.getElem?_eq_getElem (show 1 < ys.length by omega)] at q1
    obtain ⟨a1, h1, g1⟩ := (tr_int Try.underlying2) enc w n [c1] _ q1
    have q2 : DataW.trod enc Try.prog w 0 (fun _ => true) true n 2 ((([c0, c1, c2, c3, c4] : List Value).drop 2).take (Try.prog.cellsOf 2)) = ys[2]? := hf 2 _ rfl
    rw [show Try.prog.cellsOf 2 = 1 from by kernel_rfl] at q2
    rw [List.getElem?_eq_getElem (show 2 < ys.length by omega)] at q2
    obtain ⟨a2, h2, g2⟩ := (tr_int Try.underlying2) enc w n [c2] _ q2
    have q3 : DataW.trod enc Try.prog w 0 (fun _ => true) true n 2 ((([c0, c1, c2, c3, c4] : List Value).drop 3).take (Try.prog.cellsOf 2)) = ys[3]? := hf 3 _ rfl
    rw [show Try.prog.cellsOf 2 = 1 from by kernel_rfl] at q3
    rw [List.getElem?_eq_getElem (show 3 < ys.length by omega)] at q3
    obtain ⟨a3, h3, g3⟩ := (tr_int Try.underlying2) enc w n [c3] _ q3
    have q4 : DataW.trod enc Try.prog w 0 (fun _ => true) true n 2 ((([c0, c1, c2, c3, c4] : List Value).drop 4).take (Try.prog.cellsOf 2)) = ys[4]? := hf 4 _ rfl
    rw [show Try.prog.cellsOf 2 = 1 from by kernel_rfl] at q4
    rw [List.getElem?_eq_getElem (show 4 < ys.length by omega)] at q4
    obtain ⟨a4, h4, g4⟩ := (tr_int Try.underlying2) enc w n [c4] _ q4
    exact ⟨⟨a0, a1, a2, a3, a4⟩, ⟨[c0], [c1, c2, c3, c4], rfl, h0, ⟨[c1], [c2, c3, c4], rfl, h1, ⟨[c2], [c3, c4], rfl, h2, ⟨[c3], [c4], rfl, h3, h4⟩⟩⟩⟩, ⟨g0, g1, g2, g3, g4⟩⟩
def g92 (x_ : S92) : Prop := ((Lit.int .i64 x_.f0).wf = true) ∧ ((Lit.int .i64 x_.f1).wf = true)
set_option maxRecDepth 100000 in
theorem tr92 : Tr Try.prog k92 92 g92 := by
  intro H enc w fuel cs x hx
  obtain ⟨ys, n, _, _, hlen, hyl, hf⟩ := DataW.trod_struct Try.underlying92 hx
  have hl : cs.length = 2 := hlen.trans (by kernel_rfl)
  have hy : ys.length = 2 := hyl
  clear hlen hyl hx
  match cs, hl with
  | [c0, c1], _ =>
    have q0 : DataW.trod enc Try.prog w 0 (fun _ => true) true n 2 ((([c0, c1] : List Value).drop 0).take (Try.prog.cellsOf 2)) = ys[0]? := hf 0 _ rfl
    rw [show Try.prog.cellsOf 2 = 1 from by kernel_rfl] at q0
    rw [List.getElem?_eq_getElem (show 0 < ys.length by omega)] at q0
    obtain ⟨a0, h0, g0⟩ := (tr_int Try.underlying2) enc w n [c0] _ q0
    have q1 : DataW.trod enc Try.prog w 0 (fun _ => true) true n 2 ((([c0, c1] : List Value).drop 1).take (Try.prog.cellsOf 2)) = ys[1]? := hf 1 _ rfl
    rw [show Try.prog.cellsOf 2 = 1 from by kernel_rfl] at q1
    rw [List.getElem?_eq_getElem (show 1 < ys.length by omega)] at q1
    obtain ⟨a1, h1, g1⟩ := (tr_int Try.underlying2) enc w n [c1] _ q1
    exact ⟨⟨a0, a1⟩, ⟨[c0], [c1], rfl, h0, h1⟩, ⟨g0, g1⟩⟩
def g88 (x_ : S88) : Prop := ((Lit.int .i64 x_.f0).wf = true) ∧ ((Lit.int .i64 x_.f1).wf = true) ∧ (x_.f2.size ≤ 9223372036854775807)
set_option maxRecDepth 100000 in
theorem tr88 : Tr Try.prog k88 88 g88 := by
  intro H enc w fuel cs x hx
  obtain ⟨ys, n, _, _, hlen, hyl, hf⟩ := DataW.trod_struct Try.underlying88 hx
  have hl : cs.length = 3 := hlen.trans (by kernel_rfl)
  have hy : ys.length = 3 := hyl
  clear hlen hyl hx
  match cs, hl with
  | [c0, c1, c2], _ =>
    have q0 : DataW.trod enc Try.prog w 0 (fun _ => true) true n 2 ((([c0, c1, c2] : List Value).drop 0).take (Try.prog.cellsOf 2)) = ys[0]? := hf 0 _ rfl
    rw [show Try.prog.cellsOf 2 = 1 from by kernel_rfl] at q0
    rw [List.getElem?_eq_getElem (show 0 < ys.length by omega)] at q0
    obtain ⟨a0, h0, g0⟩ := (tr_int Try.underlying2) enc w n [c0] _ q0
    have q1 : DataW.trod enc Try.prog w 0 (fun _ => true) true n 2 ((([c0, c1, c2] : List Value).drop 1).take (Try.prog.cellsOf 2)) = ys[1]? := hf 1 _ rfl
    rw [show Try.prog.cellsOf 2 = 1 from by kernel_rfl] at q1
    rw [List.getElem?_eq_getElem (show 1 < ys.length by omega)] at q1
    obtain ⟨a1, h1, g1⟩ := (tr_int Try.underlying2) enc w n [c1] _ q1
    have q2 : DataW.trod enc Try.prog w 0 (fun _ => true) true n 9 ((([c0, c1, c2] : List Value).drop 2).take (Try.prog.cellsOf 9)) = ys[2]? := hf 2 _ rfl
    rw [show Try.prog.cellsOf 9 = 1 from by kernel_rfl] at q2
    rw [List.getElem?_eq_getElem (show 2 < ys.length by omega)] at q2
    obtain ⟨a2, h2, g2⟩ := (tr_string Try.underlying9) enc w n [c2] _ q2
    exact ⟨⟨a0, a1, a2⟩, ⟨[c0], [c1, c2], rfl, h0, ⟨[c1], [c2], rfl, h1, h2⟩⟩, ⟨g0, g1, g2⟩⟩
def g90 (x_ : S90) : Prop := ((Lit.int .i64 x_.f0).wf = true) ∧ ((Lit.int .i64 x_.f1).wf = true) ∧ (g88 x_.f2)
set_option maxRecDepth 100000 in
theorem tr90 : Tr Try.prog k90 90 g90 := by
  intro H enc w fuel cs x hx
  obtain ⟨ys, n, _, _, hlen, hyl, hf⟩ := DataW.trod_struct Try.underlying90 hx
  have hl : cs.length = 5 := hlen.trans (by kernel_rfl)
  have hy : ys.length = 3 := hyl
  clear hlen hyl hx
  match cs, hl with
  | [c0, c1, c2, c3, c4], _ =>
    have q0 : DataW.trod enc Try.prog w 0 (fun _ => true) true n 2 ((([c0, c1, c2, c3, c4] : List Value).drop 0).take (Try.prog.cellsOf 2)) = ys[0]? := hf 0 _ rfl
    rw [show Try.prog.cellsOf 2 = 1 from by kernel_rfl] at q0
    rw [List.getElem?_eq_getElem (show 0 < ys.length by omega)] at q0
    obtain ⟨a0, h0, g0⟩ := (tr_int Try.underlying2) enc w n [c0] _ q0
    have q1 : DataW.trod enc Try.prog w 0 (fun _ => true) true n 2 ((([c0, c1, c2, c3, c4] : List Value).drop 1).take (Try.prog.cellsOf 2)) = ys[1]? := hf 1 _ rfl
    rw [show Try.prog.cellsOf 2 = 1 from by kernel_rfl] at q1
    rw [List.getElem?_eq_getElem (show 1 < ys.length by omega)] at q1
    obtain ⟨a1, h1, g1⟩ := (tr_int Try.underlying2) enc w n [c1] _ q1
    have q2 : DataW.trod enc Try.prog w 0 (fun _ => true) true n 88 ((([c0, c1, c2, c3, c4] : List Value).drop 2).take (Try.prog.cellsOf 88)) = ys[2]? := hf 2 _ rfl
    rw [show Try.prog.cellsOf 88 = 3 from by kernel_rfl] at q2
    rw [List.getElem?_eq_getElem (show 2 < ys.length by omega)] at q2
    obtain ⟨a2, h2, g2⟩ := tr88 enc w n [c2, c3, c4] _ q2
    exact ⟨⟨a0, a1, a2⟩, ⟨[c0], [c1, c2, c3, c4], rfl, h0, ⟨[c1], [c2, c3, c4], rfl, h1, h2⟩⟩, ⟨g0, g1, g2⟩⟩
def g41 (x_ : S41) : Prop := (x_.f0.length ≤ 9223372036854775807 ∧ ∀ y_ ∈ x_.f0, g60 y_) ∧ (x_.f1.length ≤ 9223372036854775807 ∧ ∀ y_ ∈ x_.f1, g92 y_) ∧ ((Lit.int .i64 x_.f2).wf = true) ∧ (x_.f3.length ≤ 9223372036854775807 ∧ ∀ y_ ∈ x_.f3, g90 y_)
set_option maxRecDepth 100000 in
theorem tr41 : Tr Try.prog k41 41 g41 := by
  intro H enc w fuel cs x hx
  obtain ⟨ys, n, _, _, hlen, hyl, hf⟩ := DataW.trod_struct Try.underlying41 hx
  have hl : cs.length = 4 := hlen.trans (by kernel_rfl)
  have hy : ys.length = 4 := hyl
  clear hlen hyl hx
  match cs, hl with
  | [c0, c1, c2, c3], _ =>
    have q0 : DataW.trod enc Try.prog w 0 (fun _ => true) true n 22 ((([c0, c1, c2, c3] : List Value).drop 0).take (Try.prog.cellsOf 22)) = ys[0]? := hf 0 _ rfl
    rw [show Try.prog.cellsOf 22 = 1 from by kernel_rfl] at q0
    rw [List.getElem?_eq_getElem (show 0 < ys.length by omega)] at q0
    obtain ⟨a0, h0, g0⟩ := (tr_slice Try.underlying22 (by kernel_rfl) tr60) enc w n [c0] _ q0
    have q1 : DataW.trod enc Try.prog w 0 (fun _ => true) true n 38 ((([c0, c1, c2, c3] : List Value).drop 1).take (Try.prog.cellsOf 38)) = ys[1]? := hf 1 _ rfl
    rw [show Try.prog.cellsOf 38 = 1 from by kernel_rfl] at q1
    rw [List.getElem?_eq_getElem (show 1 < ys.length by omega)] at q1
    obtain ⟨a1, h1, g1⟩ := (tr_slice Try.underlying38 (by kernel_rfl) tr92) enc w n [c1] _ q1
    have q2 : DataW.trod enc Try.prog w 0 (fun _ => true) true n 2 ((([c0, c1, c2, c3] : List Value).drop 2).take (Try.prog.cellsOf 2)) = ys[2]? := hf 2 _ rfl
    rw [show Try.prog.cellsOf 2 = 1 from by kernel_rfl] at q2
    rw [List.getElem?_eq_getElem (show 2 < ys.length by omega)] at q2
    obtain ⟨a2, h2, g2⟩ := (tr_int Try.underlying2) enc w n [c2] _ q2
    have q3 : DataW.trod enc Try.prog w 0 (fun _ => true) true n 39 ((([c0, c1, c2, c3] : List Value).drop 3).take (Try.prog.cellsOf 39)) = ys[3]? := hf 3 _ rfl
    rw [show Try.prog.cellsOf 39 = 1 from by kernel_rfl] at q3
    rw [List.getElem?_eq_getElem (show 3 < ys.length by omega)] at q3
    obtain ⟨a3, h3, g3⟩ := (tr_slice Try.underlying39 (by kernel_rfl) tr90) enc w n [c3] _ q3
    exact ⟨⟨a0, a1, a2, a3⟩, ⟨[c0], [c1, c2, c3], rfl, h0, ⟨[c1], [c2, c3], rfl, h1, ⟨[c2], [c3], rfl, h2, h3⟩⟩⟩, ⟨g0, g1, g2, g3⟩⟩
end Go.Proofs.Ytlfhpljeeedbdaa.Qb

/- Small laws of the pure side: what ends, step by step; whole numbers; lists by places. -/
namespace Go.Proofs.Ytlfhpljeeedbdaa.Aid
open Go.RowKit Go.Proofs.YtlfhpljeeedbdaaW.PrintWords

theorem wrap_id {x : Int} (h0 : -9223372036854775808 ≤ x) (h1 : x ≤ 9223372036854775807) : wrap64 x = x := by
  unfold wrap64
  omega
theorem wrap_up {i n : Nat} (h : i < n) (hn : n ≤ 4611686018427387904) : wrap64 ((i : Int) + 1) = ((i + 1 : Nat) : Int) := by
  rw [wrap_id (by omega) (by omega)]
  omega
theorem wf_lo {x : Int} (h : (Lit.int .i64 x).wf = true) : -9223372036854775808 ≤ x ∧ x ≤ 9223372036854775807 := by
  have h' : (decide (IntKind.i64.min ≤ x) && decide (x ≤ IntKind.i64.max)) = true := h
  simp only [Bool.and_eq_true, decide_eq_true_eq] at h'
  exact h'
/-- One round, then what is known of the rest. -/
theorem ev_step {α : Type} {g : Nat → Option α} (f : Nat → Option α) {r : α} (h : ∀ k, g (k + 1) = f k) (k : Ev f r) : Ev g r := Ev.step h k
theorem ev_done {α : Type} {g : Nat → Option α} {r : α} (h : ∀ k, g (k + 1) = some r) : Ev g r := Ev.step h (Ev.now r)
theorem ev_is {α : Type} {g : Nat → Option α} {r : α} (h : ∀ k, g k = some r) : Ev g r := ⟨0, fun k _ => h k⟩
/-- A call whose answer is known, then the rest. -/
theorem ev_call {α β : Type} {g : Nat → Option α} {f : Nat → α → Option β} {a : α} {r : β} (h : Ev g a) (k : Ev (fun n => f n a) r) : Ev (fun n => (g n).bind (f n)) r := Ev.bind h k
theorem ev_cong {α : Type} {g f : Nat → Option α} {r : α} (h : ∀ k, g k = f k) (k : Ev f r) : Ev g r := Ev.congr h k
theorem rd_at {l : List Int} {i : Nat} (h : i < l.length) : rd l (i : Int) = l[i] := by
  unfold rd
  rw [Int.toNat_natCast, List.getD_eq_getElem?_getD, List.getElem?_eq_getElem h]
  rfl
theorem drop_at {α : Type} {l : List α} {i : Nat} (h : i < l.length) : l.drop i = l[i] :: l.drop (i + 1) := List.drop_eq_getElem_cons h
theorem drop_end {α : Type} {l : List α} {i : Nat} (h : l.length ≤ i) : l.drop i = [] := List.drop_eq_nil_of_le h
theorem rd_set_at {l : List Int} {i : Nat} {v : Int} (h : i < l.length) : rd (l.set i v) (i : Int) = v := by
  rw [rd_at (by simpa using h)]
  simp
theorem rdOf_at {α : Type} {z : α} {l : List α} {i : Nat} (h : i < l.length) : rdOf z l (i : Int) = l[i] := by
  unfold rdOf
  rw [Int.toNat_natCast, List.getD_eq_getElem?_getD, List.getElem?_eq_getElem h]
  rfl
theorem rdOf_set_at {α : Type} {z : α} {l : List α} {i : Nat} {v : α} (h : i < l.length) : rdOf z (l.set i v) (i : Int) = v := by
  rw [rdOf_at (by simpa using h)]
  simp
theorem take_set_snoc {α : Type} {l : List α} {i : Nat} {v : α} (h : i < l.length) : (l.set i v).take (i + 1) = l.take i ++ [v] := by
  rw [List.take_succ_eq_append_getElem (by simpa using h), List.take_set_of_le (Nat.le_refl i)]
  simp
theorem take_set_next {α : Type} {m L : List α} {i : Nat} {v : α} (h : i < m.length) (h' : i < L.length) (ht : m.take i = L.take i) (hv : L[i] = v) : (m.set i v).take (i + 1) = L.take (i + 1) := by
  rw [take_set_snoc h, List.take_succ_eq_append_getElem h', ht, hv]
theorem wr1_ (m : Int) (h0 : -9223372036854775808 ≤ m + 1) (h1 : m + 1 ≤ 9223372036854775807) : wrap64 (m + 1) = m + 1 := wrap_id h0 h1
theorem wrn_ (m j j1 : Int) (e : j + 1 = j1) (h0 : -9223372036854775808 ≤ m + j + 1) (h1 : m + j + 1 ≤ 9223372036854775807) : wrap64 (m + j + 1) = m + j1 := by
  rw [wrap_id h0 h1]
  omega
theorem size_strOfNums (xs : List Int) : (strOfNums xs).size = xs.length := by
  simp [strOfNums, ByteArray.size]
theorem tdiv_lt {x : Int} (h : 0 < x) : 0 ≤ Int.tdiv x 10 ∧ Int.tdiv x 10 + 1 ≤ x := by
  have : Int.tdiv x 10 = x / 10 := Int.tdiv_eq_ediv_of_nonneg (by omega)
  rw [this]
  omega
/-- Where what is so stands ahead of what is not: how many are so is the place. -/
theorem take_pos {α : Type} (p : α → Bool) (l : List α) (hm : l.Pairwise (fun x y => p y = true → p x = true)) : ∀ j (hj : j < l.length), p l[j] = true ↔ j < (l.takeWhile p).length := by
  induction l with
  | nil => intro j hj; simp at hj
  | cons x l ih =>
    intro j hj
    obtain ⟨h1, h2⟩ := List.pairwise_cons.1 hm
    cases hx : p x with
    | true =>
      rw [List.takeWhile_cons_of_pos hx]
      cases j with
      | zero => simp [hx]
      | succ j => simpa using ih h2 j (by simpa using hj)
    | false =>
      rw [List.takeWhile_cons_of_neg (by simp [hx])]
      cases j with
      | zero => simp [hx]
      | succ j =>
        have hj' : j < l.length := by simpa using hj
        have : p l[j] = true → False := fun h => by
          have := h1 l[j] (List.getElem_mem hj') h
          rw [hx] at this
          cases this
        simp
        exact Bool.eq_false_iff.2 this
theorem take_pos_le {α : Type} (p : α → Bool) (l : List α) : (l.takeWhile p).length ≤ l.length := (List.takeWhile_prefix p).length_le
theorem mid_eq {a b : Nat} (h : a + b ≤ 4611686018427387904) : wrap64 ((IntKind.u64.wrap (wrap64 ((a : Int) + (b : Int)))) / 2) = ((((a + b) / 2 : Nat)) : Int) := by
  have e : wrap64 ((a : Int) + (b : Int)) = ((a + b : Nat) : Int) := by rw [wrap_id (by omega) (by omega)]; omega
  have e2 : IntKind.u64.wrap (((a + b : Nat)) : Int) = ((a + b : Nat) : Int) := by
    have : IntKind.u64.wrap (((a + b : Nat)) : Int) = (((a + b : Nat)) : Int) % 18446744073709551616 := rfl
    rw [this]
    omega
  rw [e, e2, wrap_id (by omega) (by omega)]
  omega
end Go.Proofs.Ytlfhpljeeedbdaa.Aid

-- By gp.py (wip/gen of the work's repo), a program of this workplace over the kit's print: Lean checks it.
namespace Go.Proofs.Ytlfhpljeeedbdaa.Qb
open Go.RowKit Go.Proofs.YtlfhpljeeedbdaaW.PrintWords Go.Proofs.YtlfhpljeeedbdaaW.PrintLast Go.Proofs.Ytlfhpljeeedbdaa.Aid
set_option linter.unusedVariables false
set_option linter.unusedSimpArgs false

def cvZnode (x : S60) : S61 := (⟨x.f0, x.f1, x.f2, x.f3, x.f4⟩ : S61)
theorem laws_toZnode.is (x : S60) : laws_toZnode.f x.f0 x.f1 x.f2 x.f3 x.f4 = some (x.f0, x.f1, x.f2, x.f3, x.f4) := by
  rfl
theorem laws_eqZnode.is (x : S61) : laws_eqZnode.f x.f0 x.f1 x.f2 x.f3 x.f4 x.f0 x.f1 x.f2 x.f3 x.f4 = some true := by
  simp [laws_eqZnode.f]
theorem laws_eqReply.is (x : S51) : laws_eqReply.f x.f0 x.f1 x.f2 x.f0 x.f1 x.f2 = some true := by
  simp [laws_eqReply.f]
def cvSession (x : S92) : S72 := (⟨x.f0, x.f1⟩ : S72)
theorem laws_toSession.is (x : S92) : laws_toSession.f x.f0 x.f1 = some (x.f0, x.f1) := by
  rfl
def cvMark (x : S90) : S74 := (⟨x.f0, x.f1, (⟨x.f2.f0, x.f2.f1, x.f2.f2⟩ : S51)⟩ : S74)
theorem laws_toMark.is (x : S90) : laws_toMark.f x.f0 x.f1 x.f2.f0 x.f2.f1 x.f2.f2 = some (x.f0, x.f1, x.f2.f0, x.f2.f1, x.f2.f2) := by
  unfold laws_toMark.f
  rfl
theorem laws_eqSession.is (x : S72) : laws_eqSession.f x.f0 x.f1 x.f0 x.f1 = some true := by
  simp [laws_eqSession.f]
theorem laws_eqMark.is (x : S74) : laws_eqMark.f x.f0 x.f1 x.f2.f0 x.f2.f1 x.f2.f2 x.f0 x.f1 x.f2.f0 x.f2.f1 x.f2.f2 = some true := by
  simp [laws_eqMark.f, laws_eqReply.f]
def cvReply (x : S88) : S51 := (⟨x.f0, x.f1, x.f2⟩ : S51)
theorem laws_toReply.is (x : S88) : laws_toReply.f x.f0 x.f1 x.f2 = some (x.f0, x.f1, x.f2) := by
  rfl
theorem rd_T60_at {l : List (S60)} {i : Nat} (h : i < l.length) : rd_T60 l (i : Int) = l[i] := by
  unfold rd_T60
  rw [Int.toNat_natCast, List.getD_eq_getElem?_getD, List.getElem?_eq_getElem h]
  rfl
theorem rd_T60_set {l : List (S60)} {i : Nat} {v : S60} (h : i < l.length) : rd_T60 (l.set i v) (i : Int) = v := by
  rw [rd_T60_at (by simpa using h)]
  simp
theorem laws_szZnode.is (x : S60) (a : Int) (hx : x.f0.size ≤ 9223372036854775807) (h0 : 0 ≤ a) (h1 : a ≤ 1048576) : laws_szZnode.f x.f0 x.f1 x.f2 x.f3 x.f4 a = some (if a - (x.f0.size : Int) < 0 then -1 else a - (x.f0.size : Int)) := by
  unfold laws_szZnode.f
  rw [wrap_id (by omega) (by omega)]
  by_cases h : a - (x.f0.size : Int) < 0
  · rw [if_pos h, if_pos h]
  · rw [if_neg h, if_neg h]
theorem laws_szZnodeS.l0_ev (l : List (S60)) (hl : l.length ≤ 4611686018427387904) (hx : ∀ x ∈ l, x.f0.size ≤ 9223372036854775807) (d : Nat) : ∀ (i : Nat) (a : Int), i + d = l.length → 0 ≤ a → a ≤ 1048576 → ∃ r : Int, Ev (fun k => laws_szZnodeS.l0 k l a (i : Int)) r ∧ (0 ≤ r → r ≤ a ∧ ∀ x ∈ l.drop i, (x.f0.size : Int) ≤ a) := by
  induction d with
  | zero =>
    intro i a h h0 h1
    refine ⟨a, ev_done fun k => ?_, fun _ => ⟨Int.le_refl _, ?_⟩⟩
    · simp only [laws_szZnodeS.l0]; rw [if_neg (by omega)]
    · rw [drop_end (by omega)]; intro x hx; cases hx
  | succ d ih =>
    intro i a h h0 h1
    have hi : i < l.length := by omega
    have hxi := hx l[i] (List.getElem_mem hi)
    by_cases hn : a - (l[i].f0.size : Int) < 0
    · refine ⟨-1, ev_done fun k => ?_, by omega⟩
      simp only [laws_szZnodeS.l0]; rw [if_pos (by omega), if_pos (by omega), rd_T60_at hi, laws_szZnode.is _ _ hxi h0 h1, if_pos hn]; simp only [Option.bind_some]; rw [if_pos (by omega)]
    · obtain ⟨r, hr, hq⟩ := ih (i + 1) (a - (l[i].f0.size : Int)) (by omega) (by omega) (by omega)
      refine ⟨r, ev_step (fun k => laws_szZnodeS.l0 k l (a - (l[i].f0.size : Int)) ((i + 1 : Nat) : Int)) (fun k => ?_) hr, fun hr0 => ?_⟩
      · simp only [laws_szZnodeS.l0]; rw [if_pos (by omega), if_pos (by omega), rd_T60_at hi, laws_szZnode.is _ _ hxi h0 h1, if_neg hn]; simp only [Option.bind_some]; rw [if_neg (by omega), wrap_up hi hl]
      · obtain ⟨h2, h3⟩ := hq hr0
        refine ⟨by omega, fun x hx' => ?_⟩
        rw [drop_at hi] at hx'
        rcases List.mem_cons.1 hx' with rfl | hx'
        · omega
        · have := h3 x hx'; omega
theorem laws_szZnodeS.ev (l : List (S60)) (a : Int) (hl : l.length ≤ 9223372036854775807) (hx : ∀ x ∈ l, x.f0.size ≤ 9223372036854775807) (h0 : 0 ≤ a) (h1 : a ≤ 1048576) : ∃ r : Int, Ev (fun k => laws_szZnodeS.f k l a) r ∧ (0 ≤ r → r ≤ a ∧ (l.length : Int) ≤ a ∧ ∀ x ∈ l, (x.f0.size : Int) ≤ a) := by
  unfold laws_szZnodeS.f
  by_cases h : a - (l.length : Int) < 0
  · refine ⟨-1, ev_is fun k => ?_, by omega⟩
    rw [wrap_id (by omega) (by omega), if_pos h]
  · obtain ⟨r, hr, hq⟩ := laws_szZnodeS.l0_ev l (by omega) hx l.length 0 (a - (l.length : Int)) (by omega) (by omega) (by omega)
    refine ⟨r, ev_cong (fun k => ?_) hr, fun hr0 => ?_⟩
    · rw [wrap_id (by omega) (by omega), if_neg h]; rfl
    · obtain ⟨h2, h3⟩ := hq hr0
      rw [List.drop_zero] at h3
      exact ⟨by omega, by omega, fun x hx' => by have := h3 x hx'; omega⟩
theorem laws_toZnodeS.l0_ev (l : List (S60)) (hl : l.length ≤ 4611686018427387904) (d : Nat) : ∀ (i : Nat) (m : List (S61)), i + d = l.length → m.length = l.length → m.take i = (l.map cvZnode).take i → Ev (fun k => laws_toZnodeS.l0 k l m (i : Int)) (l.map cvZnode) := by
  induction d with
  | zero =>
    intro i m h hm ht
    have e : m = (l.map cvZnode) := by rw [List.take_of_length_le (by omega), List.take_of_length_le (by rw [List.length_map]; omega)] at ht; exact ht
    exact ev_done fun k => by simp only [laws_toZnodeS.l0]; rw [if_neg (by omega), e]
  | succ d ih =>
    intro i m h hm ht
    have hi : i < l.length := by omega
    have hi' : i < (l.map cvZnode).length := by rw [List.length_map]; omega
    have hv : (l.map cvZnode)[i] = (cvZnode l[i]) := by rw [List.getElem_map]
    refine ev_step (fun k => laws_toZnodeS.l0 k l (m.set i (cvZnode l[i])) ((i + 1 : Nat) : Int)) (fun k => ?_) (ih (i + 1) (m.set i (cvZnode l[i])) (by omega) (by rw [List.length_set]; exact hm) ?_)
    · simp only [laws_toZnodeS.l0]; rw [if_pos (by omega), if_pos (by omega), rd_T60_at hi, laws_toZnode.is]; simp only [Option.bind_some]; rw [if_pos (by omega), wrap_up hi hl, Int.toNat_natCast]; rfl
    · exact take_set_next (by omega) hi' ht hv
theorem laws_toZnodeS.ev (l : List (S60)) (hl : l.length ≤ 1048576) : Ev (fun k => laws_toZnodeS.f k l) (l.map cvZnode) := by
  unfold laws_toZnodeS.f
  refine ev_cong (f := fun k => laws_toZnodeS.l0 k l (List.replicate l.length z61) ((0 : Nat) : Int)) (fun k => ?_) (laws_toZnodeS.l0_ev l (by omega) l.length 0 _ (by omega) (by simp) (by simp))
  rw [if_pos (by omega), if_pos (by rw [Int.toNat_natCast]; omega), Int.toNat_natCast]; rfl
theorem rd_T61_at {l : List (S61)} {i : Nat} (h : i < l.length) : rd_T61 l (i : Int) = l[i] := by
  unfold rd_T61
  rw [Int.toNat_natCast, List.getD_eq_getElem?_getD, List.getElem?_eq_getElem h]
  rfl
theorem rd_T61_set {l : List (S61)} {i : Nat} {v : S61} (h : i < l.length) : rd_T61 (l.set i v) (i : Int) = v := by
  rw [rd_T61_at (by simpa using h)]
  simp
theorem laws_eqZnodeS.l0_ev (l : List (S61)) (hl : l.length ≤ 4611686018427387904) (d : Nat) : ∀ (i : Nat), i + d = l.length → Ev (fun k => laws_eqZnodeS.l0 k l l (i : Int)) true := by
  induction d with
  | zero => exact fun i h => ev_done fun k => by simp only [laws_eqZnodeS.l0]; rw [if_neg (by omega)]
  | succ d ih =>
    intro i h
    have hi : i < l.length := by omega
    refine ev_step (fun k => laws_eqZnodeS.l0 k l l ((i + 1 : Nat) : Int)) (fun k => ?_) (ih (i + 1) (by omega))
    simp only [laws_eqZnodeS.l0]; rw [if_pos (by omega), if_pos (by omega), if_pos (by omega), laws_eqZnode.is, Option.bind_some, if_pos rfl, wrap_up hi hl]
theorem laws_eqZnodeS.ev (l : List (S61)) (hl : l.length ≤ 4611686018427387904) : Ev (fun k => laws_eqZnodeS.f k l l) true := by
  unfold laws_eqZnodeS.f
  exact ev_cong (fun k => if_pos rfl) (laws_eqZnodeS.l0_ev l hl l.length 0 (by omega))
theorem rd_T92_at {l : List (S92)} {i : Nat} (h : i < l.length) : rd_T92 l (i : Int) = l[i] := by
  unfold rd_T92
  rw [Int.toNat_natCast, List.getD_eq_getElem?_getD, List.getElem?_eq_getElem h]
  rfl
theorem rd_T92_set {l : List (S92)} {i : Nat} {v : S92} (h : i < l.length) : rd_T92 (l.set i v) (i : Int) = v := by
  rw [rd_T92_at (by simpa using h)]
  simp
theorem laws_szSessionS.ev (l : List (S92)) (a : Int) (hl : l.length ≤ 9223372036854775807) (h0 : 0 ≤ a) (h1 : a ≤ 1048576) : ∃ r : Int, (laws_szSessionS.f l a = some r) ∧ (0 ≤ r → r ≤ a ∧ (l.length : Int) ≤ a) := by
  unfold laws_szSessionS.f
  rw [wrap_id (by omega) (by omega)]
  by_cases h : a - (l.length : Int) < 0
  · exact ⟨-1, if_pos h, by omega⟩
  · exact ⟨_, if_neg h, by omega⟩
theorem rd_T90_at {l : List (S90)} {i : Nat} (h : i < l.length) : rd_T90 l (i : Int) = l[i] := by
  unfold rd_T90
  rw [Int.toNat_natCast, List.getD_eq_getElem?_getD, List.getElem?_eq_getElem h]
  rfl
theorem rd_T90_set {l : List (S90)} {i : Nat} {v : S90} (h : i < l.length) : rd_T90 (l.set i v) (i : Int) = v := by
  rw [rd_T90_at (by simpa using h)]
  simp
theorem laws_szMark.is (x : S90) (a : Int) (hx : x.f2.f2.size ≤ 9223372036854775807) (h0 : 0 ≤ a) (h1 : a ≤ 1048576) : laws_szMark.f x.f0 x.f1 x.f2.f0 x.f2.f1 x.f2.f2 a = some (if a - (x.f2.f2.size : Int) < 0 then -1 else a - (x.f2.f2.size : Int)) := by
  unfold laws_szMark.f; unfold laws_szReply.f
  rw [wrap_id (by omega) (by omega)]
  by_cases h : a - (x.f2.f2.size : Int) < 0
  · rw [if_pos h, if_pos h]; rfl
  · rw [if_neg h, if_neg h]; exact if_neg h
theorem laws_szMarkS.l0_ev (l : List (S90)) (hl : l.length ≤ 4611686018427387904) (hx : ∀ x ∈ l, x.f2.f2.size ≤ 9223372036854775807) (d : Nat) : ∀ (i : Nat) (a : Int), i + d = l.length → 0 ≤ a → a ≤ 1048576 → ∃ r : Int, Ev (fun k => laws_szMarkS.l0 k l a (i : Int)) r ∧ (0 ≤ r → r ≤ a ∧ ∀ x ∈ l.drop i, (x.f2.f2.size : Int) ≤ a) := by
  induction d with
  | zero =>
    intro i a h h0 h1
    refine ⟨a, ev_done fun k => ?_, fun _ => ⟨Int.le_refl _, ?_⟩⟩
    · simp only [laws_szMarkS.l0]; rw [if_neg (by omega)]
    · rw [drop_end (by omega)]; intro x hx; cases hx
  | succ d ih =>
    intro i a h h0 h1
    have hi : i < l.length := by omega
    have hxi := hx l[i] (List.getElem_mem hi)
    by_cases hn : a - (l[i].f2.f2.size : Int) < 0
    · refine ⟨-1, ev_done fun k => ?_, by omega⟩
      simp only [laws_szMarkS.l0]; rw [if_pos (by omega), if_pos (by omega), rd_T90_at hi, laws_szMark.is _ _ hxi h0 h1, if_pos hn]; simp only [Option.bind_some]; rw [if_pos (by omega)]
    · obtain ⟨r, hr, hq⟩ := ih (i + 1) (a - (l[i].f2.f2.size : Int)) (by omega) (by omega) (by omega)
      refine ⟨r, ev_step (fun k => laws_szMarkS.l0 k l (a - (l[i].f2.f2.size : Int)) ((i + 1 : Nat) : Int)) (fun k => ?_) hr, fun hr0 => ?_⟩
      · simp only [laws_szMarkS.l0]; rw [if_pos (by omega), if_pos (by omega), rd_T90_at hi, laws_szMark.is _ _ hxi h0 h1, if_neg hn]; simp only [Option.bind_some]; rw [if_neg (by omega), wrap_up hi hl]
      · obtain ⟨h2, h3⟩ := hq hr0
        refine ⟨by omega, fun x hx' => ?_⟩
        rw [drop_at hi] at hx'
        rcases List.mem_cons.1 hx' with rfl | hx'
        · omega
        · have := h3 x hx'; omega
theorem laws_szMarkS.ev (l : List (S90)) (a : Int) (hl : l.length ≤ 9223372036854775807) (hx : ∀ x ∈ l, x.f2.f2.size ≤ 9223372036854775807) (h0 : 0 ≤ a) (h1 : a ≤ 1048576) : ∃ r : Int, Ev (fun k => laws_szMarkS.f k l a) r ∧ (0 ≤ r → r ≤ a ∧ (l.length : Int) ≤ a ∧ ∀ x ∈ l, (x.f2.f2.size : Int) ≤ a) := by
  unfold laws_szMarkS.f
  by_cases h : a - (l.length : Int) < 0
  · refine ⟨-1, ev_is fun k => ?_, by omega⟩
    rw [wrap_id (by omega) (by omega), if_pos h]
  · obtain ⟨r, hr, hq⟩ := laws_szMarkS.l0_ev l (by omega) hx l.length 0 (a - (l.length : Int)) (by omega) (by omega) (by omega)
    refine ⟨r, ev_cong (fun k => ?_) hr, fun hr0 => ?_⟩
    · rw [wrap_id (by omega) (by omega), if_neg h]; rfl
    · obtain ⟨h2, h3⟩ := hq hr0
      rw [List.drop_zero] at h3
      exact ⟨by omega, by omega, fun x hx' => by have := h3 x hx'; omega⟩
theorem laws_toSessionS.l0_ev (l : List (S92)) (hl : l.length ≤ 4611686018427387904) (d : Nat) : ∀ (i : Nat) (m : List (S72)), i + d = l.length → m.length = l.length → m.take i = (l.map cvSession).take i → Ev (fun k => laws_toSessionS.l0 k l m (i : Int)) (l.map cvSession) := by
  induction d with
  | zero =>
    intro i m h hm ht
    have e : m = (l.map cvSession) := by rw [List.take_of_length_le (by omega), List.take_of_length_le (by rw [List.length_map]; omega)] at ht; exact ht
    exact ev_done fun k => by simp only [laws_toSessionS.l0]; rw [if_neg (by omega), e]
  | succ d ih =>
    intro i m h hm ht
    have hi : i < l.length := by omega
    have hi' : i < (l.map cvSession).length := by rw [List.length_map]; omega
    have hv : (l.map cvSession)[i] = (cvSession l[i]) := by rw [List.getElem_map]
    refine ev_step (fun k => laws_toSessionS.l0 k l (m.set i (cvSession l[i])) ((i + 1 : Nat) : Int)) (fun k => ?_) (ih (i + 1) (m.set i (cvSession l[i])) (by omega) (by rw [List.length_set]; exact hm) ?_)
    · simp only [laws_toSessionS.l0]; rw [if_pos (by omega), if_pos (by omega), rd_T92_at hi, laws_toSession.is]; simp only [Option.bind_some]; rw [if_pos (by omega), wrap_up hi hl, Int.toNat_natCast]; rfl
    · exact take_set_next (by omega) hi' ht hv
theorem laws_toSessionS.ev (l : List (S92)) (hl : l.length ≤ 1048576) : Ev (fun k => laws_toSessionS.f k l) (l.map cvSession) := by
  unfold laws_toSessionS.f
  refine ev_cong (f := fun k => laws_toSessionS.l0 k l (List.replicate l.length z72) ((0 : Nat) : Int)) (fun k => ?_) (laws_toSessionS.l0_ev l (by omega) l.length 0 _ (by omega) (by simp) (by simp))
  rw [if_pos (by omega), if_pos (by rw [Int.toNat_natCast]; omega), Int.toNat_natCast]; rfl
theorem laws_toMarkS.l0_ev (l : List (S90)) (hl : l.length ≤ 4611686018427387904) (d : Nat) : ∀ (i : Nat) (m : List (S74)), i + d = l.length → m.length = l.length → m.take i = (l.map cvMark).take i → Ev (fun k => laws_toMarkS.l0 k l m (i : Int)) (l.map cvMark) := by
  induction d with
  | zero =>
    intro i m h hm ht
    have e : m = (l.map cvMark) := by rw [List.take_of_length_le (by omega), List.take_of_length_le (by rw [List.length_map]; omega)] at ht; exact ht
    exact ev_done fun k => by simp only [laws_toMarkS.l0]; rw [if_neg (by omega), e]
  | succ d ih =>
    intro i m h hm ht
    have hi : i < l.length := by omega
    have hi' : i < (l.map cvMark).length := by rw [List.length_map]; omega
    have hv : (l.map cvMark)[i] = (cvMark l[i]) := by rw [List.getElem_map]
    refine ev_step (fun k => laws_toMarkS.l0 k l (m.set i (cvMark l[i])) ((i + 1 : Nat) : Int)) (fun k => ?_) (ih (i + 1) (m.set i (cvMark l[i])) (by omega) (by rw [List.length_set]; exact hm) ?_)
    · simp only [laws_toMarkS.l0]; rw [if_pos (by omega), if_pos (by omega), rd_T90_at hi, laws_toMark.is]; simp only [Option.bind_some]; rw [if_pos (by omega), wrap_up hi hl, Int.toNat_natCast]; rfl
    · exact take_set_next (by omega) hi' ht hv
theorem laws_toMarkS.ev (l : List (S90)) (hl : l.length ≤ 1048576) : Ev (fun k => laws_toMarkS.f k l) (l.map cvMark) := by
  unfold laws_toMarkS.f
  refine ev_cong (f := fun k => laws_toMarkS.l0 k l (List.replicate l.length z74) ((0 : Nat) : Int)) (fun k => ?_) (laws_toMarkS.l0_ev l (by omega) l.length 0 _ (by omega) (by simp) (by simp))
  rw [if_pos (by omega), if_pos (by rw [Int.toNat_natCast]; omega), Int.toNat_natCast]; rfl
theorem rd_T72_at {l : List (S72)} {i : Nat} (h : i < l.length) : rd_T72 l (i : Int) = l[i] := by
  unfold rd_T72
  rw [Int.toNat_natCast, List.getD_eq_getElem?_getD, List.getElem?_eq_getElem h]
  rfl
theorem rd_T72_set {l : List (S72)} {i : Nat} {v : S72} (h : i < l.length) : rd_T72 (l.set i v) (i : Int) = v := by
  rw [rd_T72_at (by simpa using h)]
  simp
theorem laws_eqSessionS.l0_ev (l : List (S72)) (hl : l.length ≤ 4611686018427387904) (d : Nat) : ∀ (i : Nat), i + d = l.length → Ev (fun k => laws_eqSessionS.l0 k l l (i : Int)) true := by
  induction d with
  | zero => exact fun i h => ev_done fun k => by simp only [laws_eqSessionS.l0]; rw [if_neg (by omega)]
  | succ d ih =>
    intro i h
    have hi : i < l.length := by omega
    refine ev_step (fun k => laws_eqSessionS.l0 k l l ((i + 1 : Nat) : Int)) (fun k => ?_) (ih (i + 1) (by omega))
    simp only [laws_eqSessionS.l0]; rw [if_pos (by omega), if_pos (by omega), if_pos (by omega), laws_eqSession.is, Option.bind_some, if_pos rfl, wrap_up hi hl]
theorem laws_eqSessionS.ev (l : List (S72)) (hl : l.length ≤ 4611686018427387904) : Ev (fun k => laws_eqSessionS.f k l l) true := by
  unfold laws_eqSessionS.f
  exact ev_cong (fun k => if_pos rfl) (laws_eqSessionS.l0_ev l hl l.length 0 (by omega))
theorem rd_T74_at {l : List (S74)} {i : Nat} (h : i < l.length) : rd_T74 l (i : Int) = l[i] := by
  unfold rd_T74
  rw [Int.toNat_natCast, List.getD_eq_getElem?_getD, List.getElem?_eq_getElem h]
  rfl
theorem rd_T74_set {l : List (S74)} {i : Nat} {v : S74} (h : i < l.length) : rd_T74 (l.set i v) (i : Int) = v := by
  rw [rd_T74_at (by simpa using h)]
  simp
theorem laws_eqMarkS.l0_ev (l : List (S74)) (hl : l.length ≤ 4611686018427387904) (d : Nat) : ∀ (i : Nat), i + d = l.length → Ev (fun k => laws_eqMarkS.l0 k l l (i : Int)) true := by
  induction d with
  | zero => exact fun i h => ev_done fun k => by simp only [laws_eqMarkS.l0]; rw [if_neg (by omega)]
  | succ d ih =>
    intro i h
    have hi : i < l.length := by omega
    refine ev_step (fun k => laws_eqMarkS.l0 k l l ((i + 1 : Nat) : Int)) (fun k => ?_) (ih (i + 1) (by omega))
    simp only [laws_eqMarkS.l0]; rw [if_pos (by omega), if_pos (by omega), if_pos (by omega), laws_eqMark.is, Option.bind_some, if_pos rfl, wrap_up hi hl]
theorem laws_eqMarkS.ev (l : List (S74)) (hl : l.length ≤ 4611686018427387904) : Ev (fun k => laws_eqMarkS.f k l l) true := by
  unfold laws_eqMarkS.f
  exact ev_cong (fun k => if_pos rfl) (laws_eqMarkS.l0_ev l hl l.length 0 (by omega))
end Go.Proofs.Ytlfhpljeeedbdaa.Qb

/- Comparisons of slices of structs, element by element: the program's (slices.Equal) and the reference's: the same. -/
namespace Go.Proofs.Ytlfhpljeeedbdaa.Pure
open Go.RowKit Go.Proofs.Ytlfhpljeeedbdaa.Qb Go.Proofs.YtlfhpljeeedbdaaW.PrintWords Go.Proofs.YtlfhpljeeedbdaaW.PrintLast Go.Proofs.Ytlfhpljeeedbdaa.Aid
def sameL {α : Type} (ne : α → α → Bool) : List α → List α → Bool
  | x :: l, y :: m => if ne x y = true then false else sameL ne l m
  | _, _ => true
def sameR {α : Type} (ne : α → α → Bool) (l m : List α) : Bool := if l.length = m.length then sameL ne l m else false
theorem sameL_cons {α : Type} {ne : α → α → Bool} {x y : α} {l m : List α} : sameL ne (x :: l) (y :: m) = if ne x y = true then false else sameL ne l m := rfl
def neZnode (x y : S61) : Bool := (!((x.f0).toList == (y.f0).toList) || (!(x.f1 == y.f1) || (!(x.f2 == y.f2) || (!(x.f3 == y.f3) || (!(x.f4 == y.f4))))))
theorem slices_Equal_impl_Znode_impl_Znode.l0_ev (l m : List S61) (hl : l.length ≤ 4611686018427387904) (he : l.length = m.length) (d : Nat) : ∀ (i : Nat), i + d = l.length → Ev (fun k => slices_Equal_impl_Znode_impl_Znode.l0 k l m (l.length : Int) (i : Int)) (sameL neZnode (l.drop i) (m.drop i)) := by
  induction d with
  | zero =>
    intro i h
    rw [drop_end (by omega)]
    exact ev_done fun k => by simp only [slices_Equal_impl_Znode_impl_Znode.l0]; rw [if_neg (by omega)]; rfl
  | succ d ih =>
    intro i h
    have hi : i < l.length := by omega
    have hi' : i < m.length := by omega
    have IH := ih (i + 1) (by omega)
    rw [drop_at hi, drop_at hi', sameL_cons]
    by_cases c : neZnode l[i] m[i] = true
    · rw [if_pos c]
      refine ev_done fun k => ?_
      simp only [slices_Equal_impl_Znode_impl_Znode.l0]; rw [if_pos (by omega), if_pos (by omega), if_pos (by omega), if_pos (by omega), rd_T61_at hi, rd_T61_at hi']; exact if_pos c
    · rw [if_neg c]
      refine ev_step (fun k => slices_Equal_impl_Znode_impl_Znode.l0 k l m (l.length : Int) ((i + 1 : Nat) : Int)) (fun k => ?_) IH
      simp only [slices_Equal_impl_Znode_impl_Znode.l0]; rw [if_pos (by omega), if_pos (by omega), if_pos (by omega), if_pos (by omega), rd_T61_at hi, rd_T61_at hi', wrap_up hi hl]; exact if_neg c
theorem equalZnode (l m : List S61) (hl : l.length ≤ 4611686018427387904) : Ev (fun k => slices_Equal_impl_Znode_impl_Znode.f k l m) (sameR neZnode l m) := by
  unfold slices_Equal_impl_Znode_impl_Znode.f sameR
  by_cases he : l.length = m.length
  · rw [if_pos he]
    exact ev_cong (fun k => if_pos (by omega)) (slices_Equal_impl_Znode_impl_Znode.l0_ev l m hl he l.length 0 (by omega))
  · rw [if_neg he]
    exact ev_is fun k => if_neg (by omega)
def neSession (x y : S72) : Bool := (!(x.f0 == y.f0) || (!(x.f1 == y.f1)))
theorem slices_Equal_impl_Session_impl_Session.l0_ev (l m : List S72) (hl : l.length ≤ 4611686018427387904) (he : l.length = m.length) (d : Nat) : ∀ (i : Nat), i + d = l.length → Ev (fun k => slices_Equal_impl_Session_impl_Session.l0 k l m (l.length : Int) (i : Int)) (sameL neSession (l.drop i) (m.drop i)) := by
  induction d with
  | zero =>
    intro i h
    rw [drop_end (by omega)]
    exact ev_done fun k => by simp only [slices_Equal_impl_Session_impl_Session.l0]; rw [if_neg (by omega)]; rfl
  | succ d ih =>
    intro i h
    have hi : i < l.length := by omega
    have hi' : i < m.length := by omega
    have IH := ih (i + 1) (by omega)
    rw [drop_at hi, drop_at hi', sameL_cons]
    by_cases c : neSession l[i] m[i] = true
    · rw [if_pos c]
      refine ev_done fun k => ?_
      simp only [slices_Equal_impl_Session_impl_Session.l0]; rw [if_pos (by omega), if_pos (by omega), if_pos (by omega), if_pos (by omega), rd_T72_at hi, rd_T72_at hi']; exact if_pos c
    · rw [if_neg c]
      refine ev_step (fun k => slices_Equal_impl_Session_impl_Session.l0 k l m (l.length : Int) ((i + 1 : Nat) : Int)) (fun k => ?_) IH
      simp only [slices_Equal_impl_Session_impl_Session.l0]; rw [if_pos (by omega), if_pos (by omega), if_pos (by omega), if_pos (by omega), rd_T72_at hi, rd_T72_at hi', wrap_up hi hl]; exact if_neg c
theorem equalSession (l m : List S72) (hl : l.length ≤ 4611686018427387904) : Ev (fun k => slices_Equal_impl_Session_impl_Session.f k l m) (sameR neSession l m) := by
  unfold slices_Equal_impl_Session_impl_Session.f sameR
  by_cases he : l.length = m.length
  · rw [if_pos he]
    exact ev_cong (fun k => if_pos (by omega)) (slices_Equal_impl_Session_impl_Session.l0_ev l m hl he l.length 0 (by omega))
  · rw [if_neg he]
    exact ev_is fun k => if_neg (by omega)
def neMark (x y : S74) : Bool := (!(x.f0 == y.f0) || (!(x.f1 == y.f1) || ((!(x.f2.f0 == y.f2.f0) || (!(x.f2.f1 == y.f2.f1) || (!((x.f2.f2).toList == (y.f2.f2).toList)))))))
theorem slices_Equal_impl_Mark_impl_Mark.l0_ev (l m : List S74) (hl : l.length ≤ 4611686018427387904) (he : l.length = m.length) (d : Nat) : ∀ (i : Nat), i + d = l.length → Ev (fun k => slices_Equal_impl_Mark_impl_Mark.l0 k l m (l.length : Int) (i : Int)) (sameL neMark (l.drop i) (m.drop i)) := by
  induction d with
  | zero =>
    intro i h
    rw [drop_end (by omega)]
    exact ev_done fun k => by simp only [slices_Equal_impl_Mark_impl_Mark.l0]; rw [if_neg (by omega)]; rfl
  | succ d ih =>
    intro i h
    have hi : i < l.length := by omega
    have hi' : i < m.length := by omega
    have IH := ih (i + 1) (by omega)
    rw [drop_at hi, drop_at hi', sameL_cons]
    by_cases c : neMark l[i] m[i] = true
    · rw [if_pos c]
      refine ev_done fun k => ?_
      simp only [slices_Equal_impl_Mark_impl_Mark.l0]; rw [if_pos (by omega), if_pos (by omega), if_pos (by omega), if_pos (by omega), rd_T74_at hi, rd_T74_at hi']; exact if_pos c
    · rw [if_neg c]
      refine ev_step (fun k => slices_Equal_impl_Mark_impl_Mark.l0 k l m (l.length : Int) ((i + 1 : Nat) : Int)) (fun k => ?_) IH
      simp only [slices_Equal_impl_Mark_impl_Mark.l0]; rw [if_pos (by omega), if_pos (by omega), if_pos (by omega), if_pos (by omega), rd_T74_at hi, rd_T74_at hi', wrap_up hi hl]; exact if_neg c
theorem equalMark (l m : List S74) (hl : l.length ≤ 4611686018427387904) : Ev (fun k => slices_Equal_impl_Mark_impl_Mark.f k l m) (sameR neMark l m) := by
  unfold slices_Equal_impl_Mark_impl_Mark.f sameR
  by_cases he : l.length = m.length
  · rw [if_pos he]
    exact ev_cong (fun k => if_pos (by omega)) (slices_Equal_impl_Mark_impl_Mark.l0_ev l m hl he l.length 0 (by omega))
  · rw [if_neg he]
    exact ev_is fun k => if_neg (by omega)
theorem spec_SameTrees.l0_ev (l m : List S61) (hl : l.length ≤ 4611686018427387904) (he : l.length = m.length) (d : Nat) : ∀ (i : Nat), i + d = l.length → Ev (fun k => spec_SameTrees.l0 k l m (i : Int)) (sameL neZnode (l.drop i) (m.drop i)) := by
  induction d with
  | zero =>
    intro i h
    rw [drop_end (by omega)]
    exact ev_done fun k => by simp only [spec_SameTrees.l0]; rw [if_neg (by omega)]; rfl
  | succ d ih =>
    intro i h
    have hi : i < l.length := by omega
    have hi' : i < m.length := by omega
    have IH := ih (i + 1) (by omega)
    rw [drop_at hi, drop_at hi', sameL_cons]
    by_cases c : neZnode l[i] m[i] = true
    · rw [if_pos c]
      refine ev_done fun k => ?_
      simp only [spec_SameTrees.l0]; rw [if_pos (by omega), if_pos (by omega), if_pos (by omega), rd_T61_at hi, rd_T61_at hi']; exact if_pos c
    · rw [if_neg c]
      refine ev_step (fun k => spec_SameTrees.l0 k l m ((i + 1 : Nat) : Int)) (fun k => ?_) IH
      simp only [spec_SameTrees.l0]; rw [if_pos (by omega), if_pos (by omega), if_pos (by omega), rd_T61_at hi, rd_T61_at hi', wrap_up hi hl]; exact if_neg c
theorem SameTrees_spec (l m : List S61) (hl : l.length ≤ 4611686018427387904) : Ev (fun k => spec_SameTrees.f k l m) (sameR neZnode l m) := by
  unfold spec_SameTrees.f sameR
  by_cases he : l.length = m.length
  · rw [if_pos he]
    exact ev_cong (fun k => if_pos (by omega)) (spec_SameTrees.l0_ev l m hl he l.length 0 (by omega))
  · rw [if_neg he]
    exact ev_is fun k => if_neg (by omega)
theorem spec_SameStates.l1_ev (n n' : List S61) (s s' : List S72) (t t' : Int) (l m : List S74) (hl : l.length ≤ 4611686018427387904) (he : l.length = m.length) (d : Nat) : ∀ (i : Nat), i + d = l.length → Ev (fun k => spec_SameStates.l1 k (i : Int) n s t l n' s' t' m) (sameL neMark (l.drop i) (m.drop i)) := by
  induction d with
  | zero =>
    intro i h
    rw [drop_end (by omega)]
    exact ev_done fun k => by simp only [spec_SameStates.l1]; rw [if_neg (by omega)]; rfl
  | succ d ih =>
    intro i h
    have hi : i < l.length := by omega
    have hi' : i < m.length := by omega
    have IH := ih (i + 1) (by omega)
    rw [drop_at hi, drop_at hi', sameL_cons]
    by_cases c : neMark l[i] m[i] = true
    · rw [if_pos c]
      refine ev_done fun k => ?_
      simp only [spec_SameStates.l1]; rw [if_pos (by omega), if_pos (by omega), if_pos (by omega), rd_T74_at hi, rd_T74_at hi']; exact if_pos c
    · rw [if_neg c]
      refine ev_step (fun k => spec_SameStates.l1 k ((i + 1 : Nat) : Int) n s t l n' s' t' m) (fun k => ?_) IH
      simp only [spec_SameStates.l1]; rw [if_pos (by omega), if_pos (by omega), if_pos (by omega), rd_T74_at hi, rd_T74_at hi', wrap_up hi hl]; exact if_neg c
theorem spec_SameStates.l0_ev (n n' : List S61) (t t' : Int) (u u' : List S74) (l m : List S72) (hl : l.length ≤ 4611686018427387904) (he : l.length = m.length) (hu : u.length ≤ 4611686018427387904) (hu' : u.length = u'.length) (d : Nat) : ∀ (i : Nat), i + d = l.length → Ev (fun k => spec_SameStates.l0 k (i : Int) n l t u n' m t' u') (sameL neSession (l.drop i) (m.drop i) && sameL neMark u u') := by
  induction d with
  | zero =>
    intro i h
    rw [drop_end (by omega)]
    rw [show sameL neSession [] (m.drop i) = true from rfl, Bool.true_and]
    exact ev_step (fun k => spec_SameStates.l1 k ((0 : Nat) : Int) n l t u n' m t' u') (fun k => by simp only [spec_SameStates.l0]; rw [if_neg (by omega)]; rfl) (spec_SameStates.l1_ev n n' l m t t' u u' hu hu' u.length 0 (by omega))
  | succ d ih =>
    intro i h
    have hi : i < l.length := by omega
    have hi' : i < m.length := by omega
    have IH := ih (i + 1) (by omega)
    rw [drop_at hi, drop_at hi', sameL_cons]
    by_cases c : neSession l[i] m[i] = true
    · rw [if_pos c, Bool.false_and]
      refine ev_done fun k => ?_
      simp only [spec_SameStates.l0]; rw [if_pos (by omega), if_pos (by omega), if_pos (by omega), rd_T72_at hi, rd_T72_at hi']; exact if_pos c
    · rw [if_neg c]
      refine ev_step (fun k => spec_SameStates.l0 k ((i + 1 : Nat) : Int) n l t u n' m t' u') (fun k => ?_) IH
      simp only [spec_SameStates.l0]; rw [if_pos (by omega), if_pos (by omega), if_pos (by omega), rd_T72_at hi, rd_T72_at hi', wrap_up hi hl]; exact if_neg c
abbrev ZL := List S61
abbrev SL := List S72
abbrev ML := List S74
def stateR (n : ZL) (s : SL) (t : Int) (u : ML) (n' : ZL) (s' : SL) (t' : Int) (u' : ML) : Bool := sameR neZnode n n' && sameR neSession s s' && decide (t = t') && sameR neMark u u'
theorem SameStates_spec (n : ZL) (s : SL) (t : Int) (u : ML) (n' : ZL) (s' : SL) (t' : Int) (u' : ML) (hn : n.length ≤ 4611686018427387904) (hs : s.length ≤ 4611686018427387904) (hu : u.length ≤ 4611686018427387904) : Ev (fun k => spec_SameStates.f k n s t u n' s' t' u') (stateR n s t u n' s' t' u') := by
  have no : Ev (fun k => spec_SameStates.j0 k true n s t u n' s' t' u') false := ev_done fun k => by simp only [spec_SameStates.j0]; exact if_pos trivial
  unfold spec_SameStates.f stateR
  refine ev_call (SameTrees_spec n n' hn) ?_
  cases hz : sameR neZnode n n' with
  | false =>
    rw [show (false && sameR neSession s s' && decide (t = t') && sameR neMark u u') = false by simp]
    exact ev_cong (fun k => if_neg (by simp)) no
  | true =>
    refine ev_cong (fun k => if_pos rfl) ?_
    by_cases ht : t = t'
    · refine ev_cong (fun k => if_pos ht) ?_
      by_cases he : s.length = s'.length
      · refine ev_cong (fun k => if_pos (by omega)) ?_
        by_cases hm : u.length = u'.length
        · have := spec_SameStates.l0_ev n n' t t' u u' s s' hs he hu hm s.length 0 (by omega)
          rw [List.drop_zero, List.drop_zero] at this
          have e : (true && sameR neSession s s' && decide (t = t') && sameR neMark u u') = (sameL neSession s s' && sameL neMark u u') := by unfold sameR; rw [if_pos he, if_pos hm]; simp [ht]
          rw [e]
          refine ev_step (fun k => spec_SameStates.l0 k ((0 : Nat) : Int) n s t u n' s' t' u') (fun k => ?_) this
          simp only [spec_SameStates.j0]; rw [if_neg (by simp [hm])]; rfl
        · have e : (true && sameR neSession s s' && decide (t = t') && sameR neMark u u') = false := by unfold sameR; rw [if_neg hm]; simp
          rw [e]
          refine ev_done fun k => ?_
          simp only [spec_SameStates.j0]; rw [if_pos (by simpa using fun h => hm (by omega))]
      · have e : (true && sameR neSession s s' && decide (t = t') && sameR neMark u u') = false := by unfold sameR; rw [if_neg he]; simp
        rw [e]
        exact ev_cong (fun k => if_neg (by omega)) no
    · have e : (true && sameR neSession s s' && decide (t = t') && sameR neMark u u') = false := by simp [ht]
      rw [e]
      exact ev_cong (fun k => if_neg ht) no
theorem SameStates_impl (n : ZL) (s : SL) (t : Int) (u : ML) (n' : ZL) (s' : SL) (t' : Int) (u' : ML) (hn : n.length ≤ 4611686018427387904) (hs : s.length ≤ 4611686018427387904) (hu : u.length ≤ 4611686018427387904) : Ev (fun k => impl_SameStates.f k n s t u n' s' t' u') (stateR n s t u n' s' t' u') := by
  unfold impl_SameStates.f stateR
  refine ev_call (equalZnode n n' hn) ?_
  cases hz : sameR neZnode n n' with
  | false => exact ev_is fun k => by simp
  | true =>
    refine ev_cong (fun k => if_pos rfl) (ev_call (equalSession s s' hs) ?_)
    cases hq : sameR neSession s s' with
    | false => exact ev_is fun k => by simp
    | true =>
      refine ev_cong (fun k => if_pos rfl) ?_
      by_cases ht : t = t'
      · refine ev_cong (fun k => if_pos ht) ?_
        have e : (true && true && decide (t = t') && sameR neMark u u') = sameR neMark u u' := by simp [ht]
        rw [e]
        exact ev_call (equalMark u u' hu) (Ev.now _)
      · have e : (true && true && decide (t = t') && sameR neMark u u') = false := by simp [ht]
        rw [e]
        exact ev_is fun k => if_neg ht
end Go.Proofs.Ytlfhpljeeedbdaa.Pure

/- SameStates: the program's answer is the reference's, for all two states; it writes into no argument. No condition. -/
namespace Go.Proofs.Ytlfhpljeeedbdaa.Pure
open Go.RowKit Go.Proofs.Ytlfhpljeeedbdaa.Qb Go.Proofs.YtlfhpljeeedbdaaW.PrintWords Go.Proofs.YtlfhpljeeedbdaaW.PrintLast Go.Proofs.Ytlfhpljeeedbdaa.Aid
theorem toState_ev (x : S41) (h0 : x.f0.length ≤ 1048576) (h1 : x.f1.length ≤ 1048576) (h3 : x.f3.length ≤ 1048576) : Ev (fun k => laws_toState.f k x.f0 x.f1 x.f2 x.f3) (x.f0.map cvZnode, x.f1.map cvSession, x.f2, x.f3.map cvMark) := by
  unfold laws_toState.f
  exact ev_call (laws_toZnodeS.ev x.f0 h0) (ev_call (laws_toSessionS.ev x.f1 h1) (ev_call (laws_toMarkS.ev x.f3 h3) (Ev.now _)))
theorem eqState_ev (l : List S61) (s : List S72) (t : Int) (m : List S74) (h0 : l.length ≤ 4611686018427387904) (h1 : s.length ≤ 4611686018427387904) (h3 : m.length ≤ 4611686018427387904) : Ev (fun k => laws_eqState.f k l s t m l s t m) true := by
  unfold laws_eqState.f
  exact ev_call (laws_eqZnodeS.ev l h0) (ev_cong (fun k => if_pos rfl) (ev_call (laws_eqSessionS.ev s h1) (ev_cong (fun k => (if_pos rfl).trans (if_pos rfl)) (ev_call (laws_eqMarkS.ev m h3) (ev_is fun k => if_pos rfl)))))
theorem szState_ev (x : S41) (a : Int) (hx : g41 x) (h0 : 0 ≤ a) (h1 : a ≤ 1048576) : ∃ r : Int, Ev (fun k => laws_szState.f k x.f0 x.f1 x.f2 x.f3 a) r ∧ (0 ≤ r → r ≤ a ∧ (x.f0.length : Int) ≤ a ∧ (x.f1.length : Int) ≤ a ∧ (x.f3.length : Int) ≤ a) := by
  unfold laws_szState.f
  simp only [g41] at hx
  obtain ⟨⟨hz, hz'⟩, ⟨hs, hs'⟩, ht, ⟨hm, hm'⟩⟩ := hx
  obtain ⟨r, hr, hq⟩ := laws_szZnodeS.ev x.f0 a hz (fun y hy => (hz' y hy).1) h0 h1
  by_cases h : r < 0
  · exact ⟨-1, ev_call hr (ev_is fun k => if_pos h), by omega⟩
  · obtain ⟨h2, h3, _⟩ := hq (by omega)
    obtain ⟨r2, hr2, hq2⟩ := laws_szSessionS.ev x.f1 r hs (by omega) (by omega)
    by_cases h' : r2 < 0
    · exact ⟨-1, ev_call hr (ev_cong (fun k => if_neg h) (ev_is fun k => by rw [hr2]; exact if_pos h')), by omega⟩
    · obtain ⟨h4, h5⟩ := hq2 (by omega)
      obtain ⟨r3, hr3, hq3⟩ := laws_szMarkS.ev x.f3 r2 hm (fun y hy => (hm' y hy).2.2.2.2) (by omega) (by omega)
      have go : ∀ v, Ev (fun k => (laws_szMarkS.f k x.f3 r2).bind fun t104 => if t104 < 0 then some (-1) else some t104) v → Ev (fun k => (laws_szZnodeS.f k x.f0 a).bind fun t102 => (if t102 < 0 then (some (-1)) else ((laws_szSessionS.f x.f1 t102).bind fun t103 => (if t103 < 0 then (some (-1)) else ((laws_szMarkS.f k x.f3 t103).bind fun t104 => (if t104 < 0 then (some (-1)) else (some t104))))))) v := fun v hv => ev_call hr (ev_cong (fun k => if_neg h) (ev_cong (fun k => by rw [hr2]; exact if_neg h') hv))
      by_cases h'' : r3 < 0
      · exact ⟨-1, go _ (ev_call hr3 (ev_is fun k => if_pos h'')), by omega⟩
      · exact ⟨r3, go _ (ev_call hr3 (ev_is fun k => if_neg h'')), fun h9 => by obtain ⟨h6, h7, _⟩ := hq3 h9; omega⟩
theorem FnExactSameStates (x y : S41) (hx : g41 x) (hy : g41 y) : ∃ k, laws_FnExactSameStates.f k x.f0 x.f1 x.f2 x.f3 y.f0 y.f1 y.f2 y.f3 = some true := by
  refine Ev.rounds ?_
  unfold laws_FnExactSameStates.f
  obtain ⟨r, hr, hq⟩ := szState_ev x 1048576 hx (by omega) (by omega)
  refine ev_call hr ?_
  by_cases h : r < 0
  · exact ev_is fun k => if_pos h
  · refine ev_cong (fun k => if_neg h) ?_
    obtain ⟨h1, h2, h2', h2''⟩ := hq (by omega)
    obtain ⟨r', hr', hq'⟩ := szState_ev y r hy (by omega) (by omega)
    refine ev_step _ (fun k => by simp only [laws_FnExactSameStates.j0]; rfl) ?_
    refine ev_call hr' ?_
    by_cases h' : r' < 0
    · exact ev_is fun k => if_pos h'
    · refine ev_cong (fun k => if_neg h') ?_
      obtain ⟨h3, h4, h4', h4''⟩ := hq' (by omega)
      have tl := toState_ev x (by omega) (by omega) (by omega)
      have tm := toState_ev y (by omega) (by omega) (by omega)
      have l0 : (x.f0.map cvZnode).length ≤ 4611686018427387904 := by rw [List.length_map]; omega
      have l1 : (x.f1.map cvSession).length ≤ 4611686018427387904 := by rw [List.length_map]; omega
      have l3 : (x.f3.map cvMark).length ≤ 4611686018427387904 := by rw [List.length_map]; omega
      have m0 : (y.f0.map cvZnode).length ≤ 4611686018427387904 := by rw [List.length_map]; omega
      have m1 : (y.f1.map cvSession).length ≤ 4611686018427387904 := by rw [List.length_map]; omega
      have m3 : (y.f3.map cvMark).length ≤ 4611686018427387904 := by rw [List.length_map]; omega
      refine ev_step _ (fun k => by simp only [laws_FnExactSameStates.j1]; rfl) ?_
      refine ev_call tl (ev_call tm (ev_call (SameStates_spec _ _ _ _ _ _ _ _ l0 l1 l3) (ev_call tl (ev_call tm (ev_call (SameStates_impl _ _ _ _ _ _ _ _ l0 l1 l3) (ev_cong (fun k => if_neg (by simp)) ?_))))))
      refine ev_step _ (fun k => by simp only [laws_FnExactSameStates.j2]; rfl) ?_
      refine ev_call tl (ev_call (eqState_ev _ _ _ _ l0 l1 l3) (ev_cong (fun k => if_pos rfl) ?_))
      refine ev_step _ (fun k => by simp only [laws_FnExactSameStates.j3]; rfl) ?_
      exact ev_call tm (ev_call (eqState_ev _ _ _ _ m0 m1 m3) (ev_is fun k => if_pos rfl))
end Go.Proofs.Ytlfhpljeeedbdaa.Pure

/- For every input the law loop.example/g00369/laws.FnExactSameStates returns true, and every argument reads behind the call as it read before. No condition. -/
namespace Go.Proofs.Ytlfhpljeeedbdaa.fnExactSameStates
open Go.ChangeShapes Go.WideShapes Go.ChangeAt Go.RowKit Go.Proofs.Ytlfhpljeeedbdaa.Qb Go.Proofs.Ytlfhpljeeedbdaa.Tro Go.Proofs.YtlfhpljeeedbdaaW.PrintWords
open Go.ChangeMaps (open_string shut_string)
set_option linter.unusedVariables false
set_option linter.unusedSimpArgs false
theorem own : ownKnob Try.prog.godebug = none := by kernel_rfl
theorem laidOut : laidOutB Try.prog = true := by kernel_rfl
set_option maxRecDepth 100000 in
theorem lifted (os : Os) (started : os.Started) (H : Type) (enc : TypeId × Value → H) :
    ReturnsInHanded {} Try.checked os 5 .any (Rows.fnExactSameStatesSpec.pre6 enc Try.prog Try.f5 Rows.fnExactSameStatesRow.domain false) (Rows.fnExactSameStatesSpec.post enc Try.prog Try.f5 false true false false) := by
  refine returnsInHanded_of_change_sized (C := Try.checked) own started (by kernel_rfl) Try.func5
    (ChangeSpec.witness6 (enc := enc) (C := Try.checked) false ⟨#[], #[.agg #[.slice none 0 0, .slice none 0 0, .int .i64 0, .slice none 0 0], .agg #[.slice none 0 0, .slice none 0 0, .int .i64 0, .slice none 0 0]], []⟩ 8 (by kernel_rfl) (by kernel_rfl) (by kernel_rfl) (by kernel_rfl)) ?_
  intro W base args ds gs before hval0 hW hcnd hsz0 _
  have hval : ∀ (j : Nat) t v, Try.f5.params[j]? = some t → args[j]? = some v → Value.okWide Try.prog W .any base t v := hval0
  have hW' := hW
  obtain ⟨p, q, hA0, hV, rfl, hfz, hnd⟩ := hW
  have hA : DataW.TrodAll enc Try.prog W 0 (fun _ => true) true Try.f5.params.toList args.toList ds p := hA0
  rw [Try.params5] at hA hval
  obtain ⟨v0, vs0, d0, ds0, p0, q0, hargs, rfl, rfl, h0, r0⟩ := trodAll_cons hA
  obtain ⟨v1, vs1, d1, ds1, p1, q1, rfl, rfl, rfl, h1, r1⟩ := trodAll_cons r0
  obtain ⟨rfl, rfl, rfl⟩ := trodAll_nil r1
  obtain rfl : args = #[v0, v1] := by cases args; simp_all
  obtain ⟨rfl, rfl⟩ := trodVars_none hV
  have k0 := h0
  have lt0 : ∀ x ∈ p0, x.block < W.heap.size := by obtain ⟨m, hm⟩ := k0; exact DataW.trod_lt m _ _ _ hm
  obtain ⟨cs0, rfl, hsz0⟩ := okWide_struct Try.underlying41 (hval 0 41 v0 rfl rfl)
  obtain ⟨fuel0, hf0⟩ := h0
  obtain ⟨x0, hK0, hg0⟩ := tr41 enc W _ _ _ hf0
  obtain ⟨A0_0, c0_0, A0_1, c0_1, A0_3, c0_3, hcs0, hl0_0, hC0_0, hl0_1, hC0_1, hl0_3, hC0_3⟩ := k41_open hK0
  have hcs0' : cs0 = #[.slice A0_0 x0.f0.length c0_0, .slice A0_1 x0.f1.length c0_1, .int .i64 x0.f2, .slice A0_3 x0.f3.length c0_3] := Array.toList_inj.1 hcs0
  subst hcs0'
  have k1 := h1
  have lt1 : ∀ x ∈ p1, x.block < W.heap.size := by obtain ⟨m, hm⟩ := k1; exact DataW.trod_lt m _ _ _ hm
  obtain ⟨cs1, rfl, hsz1⟩ := okWide_struct Try.underlying41 (hval 1 41 v1 rfl rfl)
  obtain ⟨fuel1, hf1⟩ := h1
  obtain ⟨x1, hK1, hg1⟩ := tr41 enc W _ _ _ hf1
  obtain ⟨A1_0, c1_0, A1_1, c1_1, A1_3, c1_3, hcs1, hl1_0, hC1_0, hl1_1, hC1_1, hl1_3, hC1_3⟩ := k41_open hK1
  have hcs1' : cs1 = #[.slice A1_0 x1.f0.length c1_0, .slice A1_1 x1.f1.length c1_1, .int .i64 x1.f2, .slice A1_3 x1.f3.length c1_3] := Array.toList_inj.1 hcs1
  subst hcs1'
  obtain ⟨k, hk⟩ := Pure.FnExactSameStates x0 x1 hg0 hg1
  refine (laws_FnExactSameStates.calls k _ _ x0.f0 _ _ x0.f1 x0.f2 _ _ x0.f3 _ _ x1.f0 _ _ x1.f1 x1.f2 _ _ x1.f3 true W hC0_0 hl0_0 hC0_1 hl0_1 hC0_3 hl0_3 hC1_0 hl1_0 hC1_1 hl1_1 hC1_3 hl1_3 hk).mono fun e W' hE => ?_
  obtain ⟨he, hd⟩ := hE
  have bel : Below W.heap.size W W' := hd
  subst he
  exact ⟨_, rfl, _, _, _, [], _, [], hW', trodAll_mk1 (shut_bool Try.underlying4 _), (trodAll_cons_mk (Below.trod laidOut (by kernel_rfl) (of_decide_eq_true (by kernel_rfl)) k0 bel lt0) (trodAll_cons_mk (Below.trod laidOut (by kernel_rfl) (of_decide_eq_true (by kernel_rfl)) k1 bel lt1) trodAll_mk0)), rfl, bel.frame _, fun h => by cases h⟩
theorem over : Rows.fnExactSameStatesRow.holds Try.pinned (OpenSpec.ofChange Rows.fnExactSameStatesSpec) :=
  OpenClaim.holds_of_wide 5 Try.f5 rfl rfl rfl rfl rfl rfl rfl ⟨rfl, rfl, rfl, rfl, rfl⟩ rfl rfl rfl rfl rfl (by kernel_rfl) Try.func5 (by kernel_rfl)
    (of_decide_eq_true (by kernel_rfl)) (by unfold Func.isWrapper; first | (rw [if_pos (by decide +kernel)]; kernel_rfl) | (rw [if_neg (by decide +kernel)]; exact ⟨rfl, rfl⟩))
    (fun os started H enc _ => lifted os started H enc)
theorem proved : Rows.FnExactSameStatesSaid := over
#print axioms proved
end Go.Proofs.Ytlfhpljeeedbdaa.fnExactSameStates
namespace Go.Proofs.Ytlfhpljeeedbdaa
/-- The row, under a short name, for the claim. -/
theorem fnExactSameStates_holds : Rows.FnExactSameStatesSaid := fnExactSameStates.proved
end Go.Proofs.Ytlfhpljeeedbdaa
