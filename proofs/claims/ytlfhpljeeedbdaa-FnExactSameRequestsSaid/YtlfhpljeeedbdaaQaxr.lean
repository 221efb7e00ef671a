-- By gp.py (wip/gen of the work's repo), a program of this workplace over the kit's print: Lean checks it.
import Derived.Test.YtlfhpljeeedbdaaQax0
import Derived.Test.YtlfhpljeeedbdaaTro
namespace Go.Proofs.Ytlfhpljeeedbdaa.Qa
open Go.RowKit Go.Proofs.YtlfhpljeeedbdaaW.PrintWords Go.Proofs.YtlfhpljeeedbdaaW.PrintLast Go.Proofs.YtlfhpljeeedbdaaW.PrintMore Go.ChangeShapes Go.WideShapes Go.Proofs.Ytlfhpljeeedbdaa.Tro
attribute [local go_sem] max2_int min2_int max_two min_two max_three min_three max_four min_four   -- for this text's walks alone
set_option linter.unusedVariables false
set_option linter.unusedSimpArgs false

def g60 (x_ : S60) : Prop := (x_.f0.size ≤ 9223372036854775807) ∧ ((Lit.int .i64 x_.f1).wf = true) ∧ ((Lit.int .i64 x_.f2).wf = true) ∧ ((Lit.int .i64 x_.f3).wf = true) ∧ ((Lit.int .i64 x_.f4).wf = true)
set_option maxRecDepth 100000 in
theorem tr60 : Tr Try.prog k60 60 g60 := by
  intro H enc w fuel cs x hx
  obtain ⟨ys, n, _, _, hlen, hyl, hf⟩ := DataW.trod_struct Try.underlying60 hx
  have hl : cs.length = 5 := hlen.trans (by kernel_rfl)
  have hy : ys.length = 5 := hyl
  clear hlen hyl hx
  match cs, hl with
  | [c0, c1, c2, c3, c4], _ =>
    have q0 : DataW.trod enc Try.prog w 0 (fun _ => true) true n 9 ((([c0, c1, c2, c3, c4] : List Value).drop 0).take (Try.prog.cellsOf 9)) = ys[0]? := hf 0 _ rfl
    rw [show Try.prog.cellsOf 9 = 1 from by kernel_rfl] at q0
    rw [List.getElem?_eq_getElem (show 0 < ys.length by omega)] at q0
    obtain ⟨a0, h0, g0⟩ := (tr_string Try.underlying9) enc w n [c0] _ q0
    have q1 : DataW.trod enc Try.prog w 0 (fun _ => true) true n 2 ((([c0, c1, c2, c3, c4] : List Value).drop 1).take (Try.prog.cellsOf 2)) = ys[1]? := hf 1 _ rfl
    rw [show Try.prog.cellsOf 2 = 1 from by kernel_rfl] at q1
    rw [List.getElem?_eq_getElem (show 1 < ys.length by omega)] at q1
    obtain ⟨a1, h1, g1⟩ := (tr_int Try.underlying2) enc w n [c1] _ q1
    have q2 : DataW.trod enc Try.prog w 0 (fun _ => true) true n 2 ((([c0, c1, c2, c3, c4] : List Value).drop 2).take (Try.prog.cellsOf 2)) = ys[2]? := hf 2 _ rfl
    rw [show Try.prog.cellsOf 2 = 1 from by kernel_rfl] at q2
    rw [List.getElem?_eq_getElem (show 2 < ys.length by omega)] at q2
    obtain ⟨a2, h2, g2⟩ := (tr_int Try.underlying2) enc w n [c2] _ q2
    have q3 : DataW.trod enc Try.prog w 0 (fun _ => true) true n 2 ((([c0, c1, c2, c3, c4] : List Value).drop 3).take (Try.prog.cellsOf 2)) = ys[3]? := hf 3 _ rfl
    rw [show Try.prog.cellsOf 2 = 1 from by kernel_rfl] at q3
    rw [List.getElem?_eq_getElem (show 3 < ys.length by omega)] at q3
    obtain ⟨a3, h3, g3⟩ := (tr_int Try.underlying2) enc w n [c3] _ q3
    have q4 : DataW.trod enc Try.prog w 0 (fun _ => true) true n 2 ((([c0, c1, c2, c3, c4] : List Value).drop 4).take (Try.prog.cellsOf 2)) = ys[4]? := hf 4 _ rfl
    rw [show Try.prog.cellsOf 2 = 1 from by kernel_rfl] at q4
    rw [List.getElem?_eq_getElem (show 4 < ys.length by omega)] at q4
    obtain ⟨a4, h4, g4⟩ := (tr_int Try.underlying2) enc w n [c4] _ q4
    exact ⟨⟨a0, a1, a2, a3, a4⟩, ⟨[c0], [c1, c2, c3, c4], rfl, h0, ⟨[c1], [c2, c3, c4], rfl, h1, ⟨[c2], [c3, c4], rfl, h2, ⟨[c3], [c4], rfl, h3, h4⟩⟩⟩⟩, ⟨g0, g1, g2, g3, g4⟩⟩
def g84 (x_ : S84) : Prop := ((Lit.int .i64 x_.f0).wf = true) ∧ (x_.f1.size ≤ 9223372036854775807) ∧ ((Lit.int .i64 x_.f2).wf = true) ∧ ((Lit.int .i64 x_.f3).wf = true) ∧ (True) ∧ (True)
set_option maxRecDepth 100000 in
theorem tr84 : Tr Try.prog k84 84 g84 := by
  intro H enc w fuel cs x hx
  obtain ⟨ys, n, _, _, hlen, hyl, hf⟩ := DataW.trod_struct Try.underlying84 hx
  have hl : cs.length = 6 := hlen.trans (by kernel_rfl)
  have hy : ys.length = 6 := hyl
  clear hlen hyl hx
  match cs, hl with
  | [c0, c1, c2, c3, c4, c5], _ =>
    have q0 : DataW.trod enc Try.prog w 0 (fun _ => true) true n 2 ((([c0, c1, c2, c3, c4, c5] : List Value).drop 0).take (Try.prog.cellsOf 2)) = ys[0]? := hf 0 _ rfl
    rw [show Try.prog.cellsOf 2 = 1 from by kernel_rfl] at q0
    rw [List.getElem?_eq_getElem (show 0 < ys.length by omega)] at q0
    obtain ⟨a0, h0, g0⟩ := (tr_int Try.underlying2) enc w n [c0] _ q0
    have q1 : DataW.trod enc Try.prog w 0 (fun _ => true) true n 9 ((([c0, c1, c2, c3, c4, c5] : List Value).drop 1).take (Try.prog.cellsOf 9)) = ys[1]? := hf 1 _ rfl
    rw [show Try.prog.cellsOf 9 = 1 from by kernel_rfl] at q1
    rw [List.getElem?_eq_getElem (show 1 < ys.length by omega)] at q1
    obtain ⟨a1, h1, g1⟩ := (tr_string Try.underlying9) enc w n [c1] _ q1
    have q2 : DataW.trod enc Try.prog w 0 (fun _ => true) true n 2 ((([c0, c1, c2, c3, c4, c5] : List Value).drop 2).take (Try.prog.cellsOf 2)) = ys[2]? := hf 2 _ rfl
    rw [show Try.prog.cellsOf 2 = 1 from by kernel_rfl] at q2
    rw [List.getElem?_eq_getElem (show 2 < ys.length by omega)] at q2
    obtain ⟨a2, h2, g2⟩ := (tr_int Try.underlying2) enc w n [c2] _ q2
    have q3 : DataW.trod enc Try.prog w 0 (fun _ => true) true n 2 ((([c0, c1, c2, c3, c4, c5] : List Value).drop 3).take (Try.prog.cellsOf 2)) = ys[3]? := hf 3 _ rfl
    rw [show Try.prog.cellsOf 2 = 1 from by kernel_rfl] at q3
    rw [List.getElem?_eq_getElem (show 3 < ys.length by omega)] at q3
    obtain ⟨a3, h3, g3⟩ := (tr_int Try.underlying2) enc w n [c3] _ q3
    have q4 : DataW.trod enc Try.prog w 0 (fun _ => true) true n 4 ((([c0, c1, c2, c3, c4, c5] : List Value).drop 4).take (Try.prog.cellsOf 4)) = ys[4]? := hf 4 _ rfl
    rw [show Try.prog.cellsOf 4 = 1 from by kernel_rfl] at q4
    rw [List.getElem?_eq_getElem (show 4 < ys.length by omega)] at q4
    obtain ⟨a4, h4, g4⟩ := (tr_bool Try.underlying4) enc w n [c4] _ q4
    have q5 : DataW.trod enc Try.prog w 0 (fun _ => true) true n 4 ((([c0, c1, c2, c3, c4, c5] : List Value).drop 5).take (Try.prog.cellsOf 4)) = ys[5]? := hf 5 _ rfl
    rw [show Try.prog.cellsOf 4 = 1 from by kernel_rfl] at q5
    rw [List.getElem?_eq_getElem (show 5 < ys.length by omega)] at q5
    obtain ⟨a5, h5, g5⟩ := (tr_bool Try.underlying4) enc w n [c5] _ q5
    exact ⟨⟨a0, a1, a2, a3, a4, a5⟩, ⟨[c0], [c1, c2, c3, c4, c5], rfl, h0, ⟨[c1], [c2, c3, c4, c5], rfl, h1, ⟨[c2], [c3, c4, c5], rfl, h2, ⟨[c3], [c4, c5], rfl, h3, ⟨[c4], [c5], rfl, h4, h5⟩⟩⟩⟩⟩, ⟨g0, g1, g2, g3, g4, g5⟩⟩
def g30 (x_ : S30) : Prop := ((Lit.int .i64 x_.f0).wf = true) ∧ ((Lit.int .i64 x_.f1).wf = true) ∧ ((Lit.int .i64 x_.f2).wf = true) ∧ (x_.f3.length ≤ 9223372036854775807 ∧ ∀ y_ ∈ x_.f3, g84 y_)
set_option maxRecDepth 100000 in
theorem tr30 : Tr Try.prog k30 30 g30 := by
  intro H enc w fuel cs x hx
  obtain ⟨ys, n, _, _, hlen, hyl, hf⟩ := DataW.trod_struct Try.underlying30 hx
  have hl : cs.length = 4 := hlen.trans (by kernel_rfl)
  have hy : ys.length = 4 := hyl
  clear hlen hyl hx
  match cs, hl with
  | [c0, c1, c2, c3], _ =>
    have q0 : DataW.trod enc Try.prog w 0 (fun _ => true) true n 2 ((([c0, c1, c2, c3] : List Value).drop 0).take (Try.prog.cellsOf 2)) = ys[0]? := hf 0 _ rfl
    rw [show Try.prog.cellsOf 2 = 1 from by kernel_rfl] at q0
    rw [List.getElem?_eq_getElem (show 0 < ys.length by omega)] at q0
    obtain ⟨a0, h0, g0⟩ := (tr_int Try.underlying2) enc w n [c0] _ q0
    have q1 : DataW.trod enc Try.prog w 0 (fun _ => true) true n 2 ((([c0, c1, c2, c3] : List Value).drop 1).take (Try.prog.cellsOf 2)) = ys[1]? := hf 1 _ rfl
    rw [show Try.prog.cellsOf 2 = 1 from by kernel_rfl] at q1
    rw [List.getElem?_eq_getElem (show 1 < ys.length by omega)] at q1
    obtain ⟨a1, h1, g1⟩ := (tr_int Try.underlying2) enc w n [c1] _ q1
    have q2 : DataW.trod enc Try.prog w 0 (fun _ => true) true n 2 ((([c0, c1, c2, c3] : List Value).drop 2).take (Try.prog.cellsOf 2)) = ys[2]? := hf 2 _ rfl
    rw [show Try.prog.cellsOf 2 = 1 from by kernel_rfl] at q2
    rw [List.getElem?_eq_getElem (show 2 < ys.length by omega)] at q2
    obtain ⟨a2, h2, g2⟩ := (tr_int Try.underlying2) enc w n [c2] _ q2
    have q3 : DataW.trod enc Try.prog w 0 (fun _ => true) true n 28 ((([c0, c1, c2, c3] : List Value).drop 3).take (Try.prog.cellsOf 28)) = ys[3]? := hf 3 _ rfl
    rw [show Try.prog.cellsOf 28 = 1 from by kernel_rfl] at q3
    rw [List.getElem?_eq_getElem (show 3 < ys.length by omega)] at q3
    obtain ⟨a3, h3, g3⟩ := (tr_slice Try.underlying28 (by kernel_rfl) tr84) enc w n [c3] _ q3
    exact ⟨⟨a0, a1, a2, a3⟩, ⟨[c0], [c1, c2, c3], rfl, h0, ⟨[c1], [c2, c3], rfl, h1, ⟨[c2], [c3], rfl, h2, h3⟩⟩⟩, ⟨g0, g1, g2, g3⟩⟩
def g92 (x_ : S92) : Prop := ((Lit.int .i64 x_.f0).wf = true) ∧ ((Lit.int .i64 x_.f1).wf = true)
set_option maxRecDepth 100000 in
theorem tr92 : Tr Try.prog k92 92 g92 := by
  intro H enc w fuel cs x hx
  obtain ⟨ys, n, _, _, hlen, hyl, hf⟩ := DataW.trod_struct Try.underlying92 hx
  have hl : cs.length = 2 := hlen.trans (by kernel_rfl)
  have hy : ys.length = 2 := hyl
  clear hlen hyl hx
  match cs, hl with
  | [c0, c1], _ =>
    have q0 : DataW.trod enc Try.prog w 0 (fun _ => true) true n 2 ((([c0, c1] : List Value).drop 0).take (Try.prog.cellsOf 2)) = ys[0]? := hf 0 _ rfl
    rw [show Try.prog.cellsOf 2 = 1 from by kernel_rfl] at q0
    rw [List.getElem?_eq_getElem (show 0 < ys.length by omega)] at q0
    obtain ⟨a0, h0, g0⟩ := (tr_int Try.underlying2) enc w n [c0] _ q0
    have q1 : DataW.trod enc Try.prog w 0 (fun _ => true) true n 2 ((([c0, c1] : List Value).drop 1).take (Try.prog.cellsOf 2)) = ys[1]? := hf 1 _ rfl
    rw [show Try.prog.cellsOf 2 = 1 from by kernel_rfl] at q1
    rw [List.getElem?_eq_getElem (show 1 < ys.length by omega)] at q1
    obtain ⟨a1, h1, g1⟩ := (tr_int Try.underlying2) enc w n [c1] _ q1
    exact ⟨⟨a0, a1⟩, ⟨[c0], [c1], rfl, h0, h1⟩, ⟨g0, g1⟩⟩
def g88 (x_ : S88) : Prop := ((Lit.int .i64 x_.f0).wf = true) ∧ ((Lit.int .i64 x_.f1).wf = true) ∧ (x_.f2.size ≤ 9223372036854775807)
set_option maxRecDepth 100000 in
theorem tr88 : Tr Try.prog k88 88 g88 := by
  intro H enc w fuel cs x hx
  obtain ⟨ys, n, _, _, hlen, hyl, hf⟩ := DataW.trod_struct Try.underlying88 hx
  have hl : cs.length = 3 := hlen.trans (by kernel_rfl)
  have hy : ys.length = 3 := hyl
  clear hlen hyl hx
  match cs, hl with
  | [c0, c1, c2], _ =>
    have q0 : DataW.trod enc Try.prog w 0 (fun _ => true) true n 2 ((([c0, c1, c2] : List Value).drop 0).take (Try.prog.cellsOf 2)) = ys[0]? := hf 0 _ rfl
    rw [show Try.prog.cellsOf 2 = 1 from by kernel_rfl] at q0
    rw [List.getElem?_eq_getElem (show 0 < ys.length by omega)] at q0
    obtain ⟨a0, h0, g0⟩ := (tr_int Try.underlying2) enc w n [c0] _ q0
    have q1 : DataW.trod enc Try.prog w 0 (fun _ => true) true n 2 ((([c0, c1, c2] : List Value).drop 1).take (Try.prog.cellsOf 2)) = ys[1]? := hf 1 _ rfl
    rw [show Try.prog.cellsOf 2 = 1 from by kernel_rfl] at q1
    rw [List.getElem?_eq_getElem (show 1 < ys.length by omega)] at q1
    obtain ⟨a1, h1, g1⟩ := (tr_int Try.underlying2) enc w n [c1] _ q1
    have q2 : DataW.trod enc Try.prog w 0 (fun _ => true) true n 9 ((([c0, c1, c2] : List Value).drop 2).take (Try.prog.cellsOf 9)) = ys[2]? := hf 2 _ rfl
    rw [show Try.prog.cellsOf 9 = 1 from by kernel_rfl] at q2
    rw [List.getElem?_eq_getElem (show 2 < ys.length by omega)] at q2
    obtain ⟨a2, h2, g2⟩ := (tr_string Try.underlying9) enc w n [c2] _ q2
    exact ⟨⟨a0, a1, a2⟩, ⟨[c0], [c1, c2], rfl, h0, ⟨[c1], [c2], rfl, h1, h2⟩⟩, ⟨g0, g1, g2⟩⟩
def g90 (x_ : S90) : Prop := ((Lit.int .i64 x_.f0).wf = true) ∧ ((Lit.int .i64 x_.f1).wf = true) ∧ (g88 x_.f2)
set_option maxRecDepth 100000 in
theorem tr90 : Tr Try.prog k90 90 g90 := by
  intro H enc w fuel cs x hx
  obtain ⟨ys, n, _, _, hlen, hyl, hf⟩ := DataW.trod_struct Try.underlying90 hx
  have hl : cs.length = 5 := hlen.trans (by kernel_rfl)
  have hy : ys.length = 3 := hyl
  clear hlen hyl hx
  match cs, hl with
  | [c0, c1, c2, c3, c4], _ =>
    have q0 : DataW.trod enc Try.prog w 0 (fun _ => true) true n 2 ((([c0, c1, c2, c3, c4] : List Value).drop 0).take (Try.prog.cellsOf 2)) = ys[0]? := hf 0 _ rfl
    rw [show Try.prog.cellsOf 2 = 1 from by kernel_rfl] at q0
    rw [List.getElem?_eq_getElem (show 0 < ys.length by omega)] at q0
    obtain ⟨a0, h0, g0⟩ := (tr_int Try.underlying2) enc w n [c0] _ q0
    have q1 : DataW.trod enc Try.prog w 0 (fun _ => true) true n 2 ((([c0, c1, c2, c3, c4] : List Value).drop 1).take (Try.prog.cellsOf 2)) = ys[1]? := hf 1 _ rfl
    rw [show Try.prog.cellsOf 2 = 1 from by kernel_rfl] at q1
    rw [List.getElem?_eq_getElem (show 1 < ys.length by omega)] at q1
    obtain ⟨a1, h1, g1⟩ := (tr_int Try.underlying2) enc w n [c1] _ q1
    have q2 : DataW.trod enc Try.prog w 0 (fun _ => true) true n 88 ((([c0, c1, c2, c3, c4] : List Value).drop 2).take (Try.prog.cellsOf 88)) = ys[2]? := hf 2 _ rfl
    rw [show Try.prog.cellsOf 88 = 3 from by kernel_rfl] at q2
    rw [List.getElem?_eq_getElem (show 2 < ys.length by omega)] at q2
    obtain ⟨a2, h2, g2⟩ := tr88 enc w n [c2, c3, c4] _ q2
    exact ⟨⟨a0, a1, a2⟩, ⟨[c0], [c1, c2, c3, c4], rfl, h0, ⟨[c1], [c2, c3, c4], rfl, h1, h2⟩⟩, ⟨g0, g1, g2⟩⟩
def g41 (x_ : S41) : Prop := (x_.f0.length ≤ 9223372036854775807 ∧ ∀ y_ ∈ x_.f0, g60 y_) ∧ (x_.f1.length ≤ 9223372036854775807 ∧ ∀ y_ ∈ x_.f1, g92 y_) ∧ ((Lit.int .i64 x_.f2).wf = true) ∧ (x_.f3.length ≤ 9223372036854775807 ∧ ∀ y_ ∈ x_.f3, g90 y_)
set_option maxRecDepth 100000 in
theorem tr41 : Tr Try.prog k41 41 g41 := by
  intro H enc w fuel cs x hx
  obtain ⟨ys, n, _, _, hlen, hyl, hf⟩ := DataW.trod_struct Try.underlying41 hx
  have hl : cs.length = 4 := hlen.trans (by kernel_rfl)
  have hy : ys.length = 4 := hyl
  clear hlen hyl hx
  match cs, hl with
  | [c0, c1, c2, c3], _ =>
    have q0 : DataW.trod enc Try.prog w 0 (fun _ => true) true n 22 ((([c0, c1, c2, c3] : List Value).drop 0).take (Try.prog.cellsOf 22)) = ys[0]? := hf 0 _ rfl
    rw [show Try.prog.cellsOf 22 = 1 from by kernel_rfl] at q0
    rw [List.getElem?_eq_getElem (show 0 < ys.length by omega)] at q0
    obtain ⟨a0, h0, g0⟩ := (tr_slice Try.underlying22 (by kernel_rfl) tr60) enc w n [c0] _ q0
    have q1 : DataW.trod enc Try.prog w 0 (fun _ => true) true n 38 ((([c0, c1, c2, c3] : List Value).drop 1).take (Try.prog.cellsOf 38)) = ys[1]? := hf 1 _ rfl
    rw [show Try.prog.cellsOf 38 = 1 from by kernel_rfl] at q1
    rw [List.getElem?_eq_getElem (show 1 < ys.length by omega)] at q1
    obtain ⟨a1, h1, g1⟩ := (tr_slice Try.underlying38 (by kernel_rfl) tr92) enc w n [c1] _ q1
    have q2 : DataW.trod enc Try.prog w 0 (fun _ => true) true n 2 ((([c0, c1, c2, c3] : List Value).drop 2).take (Try.prog.cellsOf 2)) = ys[2]? := hf 2 _ rfl
    rw [show Try.prog.cellsOf 2 = 1 from by kernel_rfl] at q2
    rw [List.getElem?_eq_getElem (show 2 < ys.length by omega)] at q2
    obtain ⟨a2, h2, g2⟩ := (tr_int Try.underlying2) enc w n [c2] _ q2
    have q3 : DataW.trod enc Try.prog w 0 (fun _ => true) true n 39 ((([c0, c1, c2, c3] : List Value).drop 3).take (Try.prog.cellsOf 39)) = ys[3]? := hf 3 _ rfl
    rw [show Try.prog.cellsOf 39 = 1 from by kernel_rfl] at q3
    rw [List.getElem?_eq_getElem (show 3 < ys.length by omega)] at q3
    obtain ⟨a3, h3, g3⟩ := (tr_slice Try.underlying39 (by kernel_rfl) tr90) enc w n [c3] _ q3
    exact ⟨⟨a0, a1, a2, a3⟩, ⟨[c0], [c1, c2, c3], rfl, h0, ⟨[c1], [c2, c3], rfl, h1, ⟨[c2], [c3], rfl, h2, h3⟩⟩⟩, ⟨g0, g1, g2, g3⟩⟩
end Go.Proofs.Ytlfhpljeeedbdaa.Qa
