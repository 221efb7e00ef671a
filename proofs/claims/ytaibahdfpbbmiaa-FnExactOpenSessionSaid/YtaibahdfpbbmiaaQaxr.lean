-- By gp.py (wip/gen of the work's repo), a program of this workplace over the kit's print: Lean checks it.
import Derived.Test.YtaibahdfpbbmiaaQax0
import Derived.Test.YtaibahdfpbbmiaaTro
namespace Go.Proofs.Ytaibahdfpbbmiaa.Qa
open Go.RowKit Go.Proofs.YtaibahdfpbbmiaaW.PrintWords Go.Proofs.YtaibahdfpbbmiaaW.PrintLast Go.Proofs.YtaibahdfpbbmiaaW.PrintMore Go.ChangeShapes Go.WideShapes Go.Proofs.Ytaibahdfpbbmiaa.Tro
attribute [local go_sem] max2_int min2_int max_two min_two max_three min_three max_four min_four   -- for this text's walks alone
set_option linter.unusedVariables false
set_option linter.unusedSimpArgs false

def g77 (x_ : S77) : Prop := ((Lit.int .i64 x_.f0).wf = true) ∧ ((Lit.int .i64 x_.f1).wf = true)
set_option maxRecDepth 100000 in
theorem tr77 : Tr Try.prog k77 77 g77 := by
  intro H enc w fuel cs x hx
  obtain ⟨ys, n, _, _, hlen, hyl, hf⟩ := DataW.trod_struct Try.underlying77 hx
  have hl : cs.length = 2 := hlen.trans (by kernel_rfl)
  have hy : ys.length = 2 := hyl
  clear hlen hyl hx
  match cs, hl with
  | [c0, c1], _ =>
    have q0 : DataW.trod enc Try.prog w 0 (fun _ => true) true n 2 ((([c0, c1] : List Value).drop 0).take (Try.prog.cellsOf 2)) = ys[0]? := hf 0 _ rfl
    rw [show Try.prog.cellsOf 2 = 1 from by kernel_rfl] at q0
    rw [List.getElem?_eq_getElem (show 0 < ys.length by omega)] at q0
    obtain ⟨a0, h0, g0⟩ := (tr_int Try.underlying2) enc w n [c0] _ q0
    have q1 : DataW.trod enc Try.prog w 0 (fun _ => true) true n 2 ((([c0, c1] : List Value).drop 1).take (Try.prog.cellsOf 2)) = ys[1]? := hf 1 _ rfl
    rw [show Try.prog.cellsOf 2 = 1 from by kernel_rfl] at q1
    rw [List.getElem?_eq_getElem (show 1 < ys.length by omega)] at q1
    obtain ⟨a1, h1, g1⟩ := (tr_int Try.underlying2) enc w n [c1] _ q1
    exact ⟨⟨a0, a1⟩, ⟨[c0], [c1], rfl, h0, h1⟩, ⟨g0, g1⟩⟩
end Go.Proofs.Ytaibahdfpbbmiaa.Qa
