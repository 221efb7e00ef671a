-- By gp.py (wip/gen of the work's repo), a program of this workplace over the kit's print: Lean checks it.
import Derived.Test.YtbeghfdlbokhkaaDoorQcx0
import Derived.Test.YtbeghfdlbokhkaaDoorTro
namespace Go.Proofs.YtbeghfdlbokhkaaDoor.Qc
open Go.RowKit Go.Proofs.YtbeghfdlbokhkaaDoorW.PrintWords Go.Proofs.YtbeghfdlbokhkaaDoorW.PrintLast Go.Proofs.YtbeghfdlbokhkaaDoorW.PrintMore Go.ChangeShapes Go.WideShapes Go.Proofs.YtbeghfdlbokhkaaDoor.Tro
attribute [local go_sem] max2_int min2_int max_two min_two max_three min_three max_four min_four   -- for this text's walks alone
set_option linter.unusedVariables false
set_option linter.unusedSimpArgs false

def g23 (x_ : S23) : Prop := ((Lit.int .i64 x_.f0).wf = true) ∧ (x_.f1.size ≤ 9223372036854775807) ∧ ((Lit.int .i64 x_.f2).wf = true) ∧ ((Lit.int .i64 x_.f3).wf = true) ∧ (True) ∧ (True)
set_option maxRecDepth 100000 in
theorem tr23 : Tr Tryd.prog k23 23 g23 := by
  intro H enc w fuel cs x hx
  obtain ⟨ys, n, _, _, hlen, hyl, hf⟩ := DataW.trod_struct Tryd.underlying23 hx
  have hl : cs.length = 6 := hlen.trans (by kernel_rfl)
  have hy : ys.length = 6 := hyl
  clear hlen hyl hx
  match cs, hl with
  | [c0, c1, c2, c3, c4, c5], _ =>
    have q0 : DataW.trod enc Tryd.prog w 0 (fun _ => true) true n 2 ((([c0, c1, c2, c3, c4, c5] : List Value).drop 0).take (Tryd.prog.cellsOf 2)) = ys[0]? := hf 0 _ rfl
    rw [show Tryd.prog.cellsOf 2 = 1 from by kernel_rfl] at q0
    rw [List.getElem?_eq_getElem (show 0 < ys.length by omega)] at q0
    obtain ⟨a0, h0, g0⟩ := (tr_int Tryd.underlying2) enc w n [c0] _ q0
    have q1 : DataW.trod enc Tryd.prog w 0 (fun _ => true) true n 9 ((([c0, c1, c2, c3, c4, c5] : List Value).drop 1).take (Tryd.prog.cellsOf 9)) = ys[1]? := hf 1 _ rfl
    rw [show Tryd.prog.cellsOf 9 = 1 from by kernel_rfl] at q1
    rw [List.getElem?_eq_getElem (show 1 < ys.length by omega)] at q1
    obtain ⟨a1, h1, g1⟩ := (tr_string Tryd.underlying9) enc w n [c1] _ q1
    have q2 : DataW.trod enc Tryd.prog w 0 (fun _ => true) true n 2 ((([c0, c1, c2, c3, c4, c5] : List Value).drop 2).take (Tryd.prog.cellsOf 2)) = ys[2]? := hf 2 _ rfl
    rw [show Tryd.prog.cellsOf 2 = 1 from by kernel_rfl] at q2
    rw [List.getElem?_eq_getElem (show 2 < ys.length by omega)] at q2
    obtain ⟨a2, h2, g2⟩ := (tr_int Tryd.underlying2) enc w n [c2] _ q2
    have q3 : DataW.trod enc Tryd.prog w 0 (fun _ => true) true n 2 ((([c0, c1, c2, c3, c4, c5] : List Value).drop 3).take (Tryd.prog.cellsOf 2)) = ys[3]? := hf 3 _ rfl
    rw [show Tryd.prog.cellsOf 2 = 1 from by kernel_rfl] at q3
    rw [List.getElem?_eq_getElem (show 3 < ys.length by omega)] at q3
    obtain ⟨a3, h3, g3⟩ := (tr_int Tryd.underlying2) enc w n [c3] _ q3
    have q4 : DataW.trod enc Tryd.prog w 0 (fun _ => true) true n 4 ((([c0, c1, c2, c3, c4, c5] : List Value).drop 4).take (Tryd.prog.cellsOf 4)) = ys[4]? := hf 4 _ rfl
    rw [show Tryd.prog.cellsOf 4 = 1 from by kernel_rfl] at q4
    rw [List.getElem?_eq_getElem (show 4 < ys.length by omega)] at q4
    obtain ⟨a4, h4, g4⟩ := (tr_bool Tryd.underlying4) enc w n [c4] _ q4
    have q5 : DataW.trod enc Tryd.prog w 0 (fun _ => true) true n 4 ((([c0, c1, c2, c3, c4, c5] : List Value).drop 5).take (Tryd.prog.cellsOf 4)) = ys[5]? := hf 5 _ rfl
    rw [show Tryd.prog.cellsOf 4 = 1 from by kernel_rfl] at q5
    rw [List.getElem?_eq_getElem (show 5 < ys.length by omega)] at q5
    obtain ⟨a5, h5, g5⟩ := (tr_bool Tryd.underlying4) enc w n [c5] _ q5
    exact ⟨⟨a0, a1, a2, a3, a4, a5⟩, ⟨[c0], [c1, c2, c3, c4, c5], rfl, h0, ⟨[c1], [c2, c3, c4, c5], rfl, h1, ⟨[c2], [c3, c4, c5], rfl, h2, ⟨[c3], [c4, c5], rfl, h3, ⟨[c4], [c5], rfl, h4, h5⟩⟩⟩⟩⟩, ⟨g0, g1, g2, g3, g4, g5⟩⟩
def g31 (x_ : S31) : Prop := ((Lit.int .i64 x_.f0).wf = true) ∧ ((Lit.int .i64 x_.f1).wf = true) ∧ ((Lit.int .i64 x_.f2).wf = true) ∧ (x_.f3.length ≤ 9223372036854775807 ∧ ∀ y_ ∈ x_.f3, g23 y_)
set_option maxRecDepth 100000 in
theorem tr31 : Tr Tryd.prog k31 31 g31 := by
  intro H enc w fuel cs x hx
  obtain ⟨ys, n, _, _, hlen, hyl, hf⟩ := DataW.trod_struct Tryd.underlying31 hx
  have hl : cs.length = 4 := hlen.trans (by kernel_rfl)
  have hy : ys.length = 4 := hyl
  clear hlen hyl hx
  match cs, hl with
  | [c0, c1, c2, c3], _ =>
    have q0 : DataW.trod enc Tryd.prog w 0 (fun _ => true) true n 2 ((([c0, c1, c2, c3] : List Value).drop 0).take (Tryd.prog.cellsOf 2)) = ys[0]? := hf 0 _ rfl
    rw [show Tryd.prog.cellsOf 2 = 1 from by kernel_rfl] at q0
    rw [List.getElem?_eq_getElem (show 0 < ys.length by omega)] at q0
    obtain ⟨a0, h0, g0⟩ := (tr_int Tryd.underlying2) enc w n [c0] _ q0
    have q1 : DataW.trod enc Tryd.prog w 0 (fun _ => true) true n 2 ((([c0, c1, c2, c3] : List Value).drop 1).take (Tryd.prog.cellsOf 2)) = ys[1]? := hf 1 _ rfl
    rw [show Tryd.prog.cellsOf 2 = 1 from by kernel_rfl] at q1
    rw [List.getElem?_eq_getElem (show 1 < ys.length by omega)] at q1
    obtain ⟨a1, h1, g1⟩ := (tr_int Tryd.underlying2) enc w n [c1] _ q1
    have q2 : DataW.trod enc Tryd.prog w 0 (fun _ => true) true n 2 ((([c0, c1, c2, c3] : List Value).drop 2).take (Tryd.prog.cellsOf 2)) = ys[2]? := hf 2 _ rfl
    rw [show Tryd.prog.cellsOf 2 = 1 from by kernel_rfl] at q2
    rw [List.getElem?_eq_getElem (show 2 < ys.length by omega)] at q2
    obtain ⟨a2, h2, g2⟩ := (tr_int Tryd.underlying2) enc w n [c2] _ q2
    have q3 : DataW.trod enc Tryd.prog w 0 (fun _ => true) true n 29 ((([c0, c1, c2, c3] : List Value).drop 3).take (Tryd.prog.cellsOf 29)) = ys[3]? := hf 3 _ rfl
    rw [show Tryd.prog.cellsOf 29 = 1 from by kernel_rfl] at q3
    rw [List.getElem?_eq_getElem (show 3 < ys.length by omega)] at q3
    obtain ⟨a3, h3, g3⟩ := (tr_slice Tryd.underlying29 (by kernel_rfl) tr23) enc w n [c3] _ q3
    exact ⟨⟨a0, a1, a2, a3⟩, ⟨[c0], [c1, c2, c3], rfl, h0, ⟨[c1], [c2, c3], rfl, h1, ⟨[c2], [c3], rfl, h2, h3⟩⟩⟩, ⟨g0, g1, g2, g3⟩⟩
end Go.Proofs.YtbeghfdlbokhkaaDoor.Qc
