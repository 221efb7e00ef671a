import Derived.Test.YtajlnffefoeppaaDoorQax0
import Derived.Test.YtajlnffefoeppaaDoorQax9
namespace Go.Proofs.YtajlnffefoeppaaDoor.Qa
open Go.RowKit Go.Proofs.YtajlnffefoeppaaDoorW.PrintWords Go.Proofs.YtajlnffefoeppaaDoorW.PrintLast Go.Proofs.YtajlnffefoeppaaDoorW.PrintMore
attribute [local go_sem] max2_int min2_int max_two min_two max_three min_three max_four min_four
set_option linter.unusedVariables false
set_option linter.unusedSimpArgs false
set_option maxHeartbeats 8000000
set_option maxRecDepth 100000

/-! ### spec_l1Parent: function 44 -/
def spec_l1Parent.f (k : Nat) (a0 : ByteArray) : Option (ByteArray) := (spec_l1Last.f k a0).bind fun t101 => (if t101 = 0 then (some (⟨#[47]⟩ : ByteArray)) else (if 0 ≤ t101 then (if t101 ≤ (a0.size : Int) then (some (a0.extract 0 (t101 : Int).toNat)) else (none)) else (none)))
theorem spec_l1Parent.mono : ∀ a0 k, LeO (spec_l1Parent.f k a0) (spec_l1Parent.f (k + 1) a0) := by
 intro a0 k
 unfold spec_l1Parent.f
 repeat' first
   | (with_reducible exact spec_l1Last.mono _ _)
   | (with_reducible exact LeO.refl _)
   | (with_reducible exact LeO.none _)
   | (with_reducible refine LeO.ite ?_ ?_)
   | (with_reducible refine LeO.bind ?_ (fun _ => ?_))
theorem spec_l1Parent.calls (k : Nat) (a0 : ByteArray) (r : ByteArray) (w : World) (h : spec_l1Parent.f k a0 = some r) :
  Calls Tryd.prog 44 #[.string a0] w fun e w' => e = .returned (.string r) ∧ Drawn0 w w' := by
 have H : ((spec_l1Last.f k a0).bind fun t101 => (if t101 = 0 then (some (⟨#[47]⟩ : ByteArray)) else (if 0 ≤ t101 then (if t101 ≤ (a0.size : Int) then (some (a0.extract 0 (t101 : Int).toNat)) else (none)) else (none)))) = some r := h
 clear h
 revert H
 refine obs_ fun t101 A2 H => ?_
 by_cases c3 : t101 = 0
 ·
  rw [if_pos c3] at H
  have c3b0 : (t101 == 0) = true := beq_iff_eq.mpr c3
  have c3b1 : (t101 != 0) = false := bne_eq_false_iff_eq.mpr c3
  clear c3
  obtain rfl := Option.some.inj H
  go_enter Tryd.func44, Tryd.ntmps44
  go_wp2_with (first | ((with_reducible refine gate_callee (f := 61) rfl ?_); refine goesL_ (some 5) rfl rfl Tryd.func61 (by kernel_rfl) rfl #[.string a0] rfl zjnmae ?_; (with_reducible refine (spec_l1Last.calls k a0 t101 _ A2.out).mono ?_); rintro e w' ⟨rfl, ⟨nd, rfl⟩⟩; refine ⟨_, rfl, ?_⟩))
  go_ret
  exact ⟨by first | rfl | (simp; done) | (simp [*]; done), by repeat (first | exact Drawn0.refl _ | apply Drawn0.step)⟩
 rw [if_neg c3] at H
 have c3b0 : (t101 == 0) = false := beq_eq_false_iff_ne.mpr c3
 have c3b1 : (t101 != 0) = true := bne_iff_ne.mpr c3
 by_cases c4 : 0 ≤ t101
 ·
  rw [if_pos c4] at H
  have c4b0 := eq_true c4
  have c4b1 : decide (0 ≤ t101) = true := decide_eq_true c4
  clear c4
  by_cases c5 : t101 ≤ (a0.size : Int)
  ·
   rw [if_pos c5] at H
   have c5b0 := eq_true c5
   have c5b1 : decide (t101 ≤ (a0.size : Int)) = true := decide_eq_true c5
   clear c5
   obtain rfl := Option.some.inj H
   go_enter Tryd.func44, Tryd.ntmps44
   go_wp2_with (first | ((with_reducible refine gate_callee (f := 61) rfl ?_); refine goesL_ (some 5) rfl rfl Tryd.func61 (by kernel_rfl) rfl #[.string a0] rfl zjnmae ?_; (with_reducible refine (spec_l1Last.calls k a0 t101 _ A2.out).mono ?_); rintro e w' ⟨rfl, ⟨nd, rfl⟩⟩; refine ⟨_, rfl, ?_⟩))
   go_ret
   exact ⟨by first | rfl | (simp; done) | (simp [*]; done), by repeat (first | exact Drawn0.refl _ | apply Drawn0.step)⟩
  rw [if_neg c5] at H
  exact absurd H (by simp)
 rw [if_neg c4] at H
 exact absurd H (by simp)

end Go.Proofs.YtajlnffefoeppaaDoor.Qa
