import Derived.Test.YtbeghfdlbokhkaaDoorQcx0
import Derived.Test.YtbeghfdlbokhkaaDoorQcx6
import Derived.Test.YtbeghfdlbokhkaaDoorQcx8
namespace Go.Proofs.YtbeghfdlbokhkaaDoor.Qc
open Go.RowKit Go.Proofs.YtbeghfdlbokhkaaDoorW.PrintWords Go.Proofs.YtbeghfdlbokhkaaDoorW.PrintLast Go.Proofs.YtbeghfdlbokhkaaDoorW.PrintMore
attribute [local go_sem] max2_int min2_int max_two min_two max_three min_three max_four min_four
set_option linter.unusedVariables false
set_option linter.unusedSimpArgs false
set_option maxHeartbeats 8000000
set_option maxRecDepth 100000

/-! ### spec_l1Fault: function 33 -/
def spec_l1Fault.j0 : Nat → ByteArray → Bool → Option (Int)
 | 0, _, _ => none
 | k + 1, x0, x17 => if x17 = true then (some 2) else ((spec_l1Names.f k x0).bind fun bt104 => (if bt104.2 = true then (some 0) else (some 5)))
def spec_l1Fault.f (k : Nat) (a0 : ByteArray) : Option (Int) := if (a0.size : Int) > 24 then (spec_l1Fault.j0 k a0 true) else (if a0.toList = ([47] : List UInt8) then (spec_l1Fault.j0 k a0 false) else ((spec_l1Cut.f k a0 47).bind fun t101 => (spec_l1Fault.j0 k a0 (decide ((t101.length : Int) > 5)))))
theorem spec_l1Fault.mono_l : ∀ k, (∀ y0 y1, LeO (spec_l1Fault.j0 k y0 y1) (spec_l1Fault.j0 (k + 1) y0 y1))
 | 0 => fun _ _ r h => by simp [spec_l1Fault.j0] at h
 | k + 1 => by
  have ih0 := spec_l1Fault.mono_l k
  ·
   intro y0 y1
   unfold spec_l1Fault.j0
   with_reducible repeat' first | exact ih0 _ _ | exact spec_l1Cut.mono _ _ _ | exact spec_l1Names.mono _ _ | exact LeO.refl _ | exact LeO.none _ | refine LeO.ite ?_ ?_ | refine LeO.bind ?_ (fun _ => ?_)
theorem spec_l1Fault.mono : ∀ a0 k, LeO (spec_l1Fault.f k a0) (spec_l1Fault.f (k + 1) a0) := by
 intro a0 k
 have ih0 := spec_l1Fault.mono_l k
 unfold spec_l1Fault.f
 with_reducible repeat' first | exact ih0 _ _ | exact spec_l1Cut.mono _ _ _ | exact spec_l1Names.mono _ _ | exact LeO.refl _ | exact LeO.none _ | refine LeO.ite ?_ ?_ | refine LeO.bind ?_ (fun _ => ?_)
theorem spec_l1Fault.calls (k : Nat) (a0 : ByteArray) (r : Int) (w : World) (h : spec_l1Fault.f k a0 = some r) :
  Calls Tryd.prog 33 #[.string a0] w fun e w' => e = .returned (.int .i64 r) ∧ Below w.heap.size w w' := by
 have HB := aa (Below.refl w.heap.size w)
 have H : (if (a0.size : Int) > 24 then (spec_l1Fault.j0 k a0 true) else (if a0.toList = ([47] : List UInt8) then (spec_l1Fault.j0 k a0 false) else ((spec_l1Cut.f k a0 47).bind fun t101 => (spec_l1Fault.j0 k a0 (decide ((t101.length : Int) > 5)))))) = some r := h
 clear h
 have HC2 := aa H
 clear H
 go_enter Tryd.func33, Tryd.ntmps33
 go_upto_region 1 with (fail)
 go_cut [17] (fun v17 wc => ∃ (kq : Nat) (x17_1 : Bool), v17 = .bool x17_1 ∧ Aside0 (spec_l1Fault.j0 kq a0 x17_1 = some r) ∧ Aside0 (kq ≤ k) ∧ Aside0 (Below w.heap.size w wc))
 case first =>
  have H := HC2.out
  clear HC2
  revert H
  refine itC_ (fun c3 H => ?_) fun c3 H => ?_
  ·
   have c3b0 : decide (24 < (a0.size : Int)) = true := decide_eq_true c3
   have c3b1 : decide (24 < a0.size) = true := decide_eq_true (by omega)
   clear c3
   (first | rw [c3b0] | (simp only [i64_w, i32_w]; rw [c3b0]) | (simp only [c3b2, Bool.not_false, Bool.not_true]) | skip)
   have H' := aa H
   clear H
   go_wp2
   go_meet
   case rel => exact ⟨_, (true), zagbkp, H', ⟨zpacfg⟩, ⟨zjjbob⟩⟩
  have c3b0 : decide (24 < (a0.size : Int)) = false := decide_eq_false c3
  have c3b1 : decide (24 < a0.size) = false := decide_eq_false (by omega)
  clear c3
  (first | rw [c3b0] | (simp only [i64_w, i32_w]; rw [c3b0]) | (simp only [c3b2, Bool.not_false, Bool.not_true]) | skip)
  revert H
  refine itE_ (fun c4b0 c4b1 H => ?_) fun c4b0 c4b1 H => ?_
  ·
   have H' := aa H
   clear H
   go_wp2
   go_meet
   case rel => exact ⟨_, (false), zagbkp, H', ⟨zpacfg⟩, ⟨zjjbob⟩⟩
  revert H
  refine obs_ fun t101 A5 H => ?_
  have H' := aa H
  clear H
  go_wp2_with (first | (go_at_call 43; (with_reducible refine (spec_l1Cut.calls k a0 47 t101 _ A5.out).mono ?_); rintro e w6 ⟨v102, rfl, ho0, hb⟩; have HO103 := aa (Kd.R_lower ho0 (below_size zjjbob)); replace HB := aa (below_step zjjbob hb); (try clear hb hk hi ho0); obtain ⟨Ao7, co7, eo7⟩ := Kd.R_slice HO103.out; subst eo7))
  go_meet
  case rel => exact ⟨_, (decide ((t101.length : Int) > 5)), zagbkp, H', ⟨zpacfg⟩, ⟨zjjbob⟩⟩
 case rest =>
  clear HC2
  try clear p2
  try clear c3
  try clear c3b0
  try clear c3b1
  try clear c3b2
  try clear c4b0
  try clear c4b1
  obtain ⟨kq, x17_1, rfl, HA, HJ1, HB⟩ := hcut
  cases kq with
  | zero => exact absurd HA.out (by simp [spec_l1Fault.j0])
  | succ kj1 =>
   have H := HA.out
   clear HA
   simp only [spec_l1Fault.j0] at H
   by_cases c8 : x17_1 = true
   ·
    subst c8
    rw [if_pos rfl] at H
    obtain rfl := Option.some.inj H
    go_wp2
    go_ret
    exact ⟨zlhpib, zjjbob⟩
   ·
    replace c8 := Bool.eq_false_iff.mpr c8
    subst c8
    rw [if_neg fT_] at H
    revert H
    refine ob2_ fun t104 t105 A9 H => ?_
    (try dsimp only at H)
    by_cases c10 : t105 = true
    ·
     subst c10
     rw [if_pos rfl] at H
     obtain rfl := Option.some.inj H
     go_wp2_with (first | (refine gc_ Tryd.func44 (some 20) #[.string a0] ?_; (with_reducible refine (spec_l1Names.calls kj1 a0 t104 true _ A9.out).mono ?_); rintro e w11 ⟨v106, rfl, ho0, hb⟩; refine ⟨_, rfl, ?_⟩; have HO107 := aa (Kd.Q_lower ho0 (below_size zjjbob)); replace HB := aa (below_step zjjbob hb); (try clear hb hk hi ho0)))
     go_ret
     exact ⟨zlhpib, zjjbob⟩
    replace c10 := Bool.eq_false_iff.mpr c10
    subst c10
    rw [if_neg fT_] at H
    obtain rfl := Option.some.inj H
    go_wp2_with (first | (refine gc_ Tryd.func44 (some 20) #[.string a0] ?_; (with_reducible refine (spec_l1Names.calls kj1 a0 t104 false _ A9.out).mono ?_); rintro e w12 ⟨v106, rfl, ho0, hb⟩; refine ⟨_, rfl, ?_⟩; have HO107 := aa (Kd.Q_lower ho0 (below_size zjjbob)); replace HB := aa (below_step zjjbob hb); (try clear hb hk hi ho0)))
    go_ret
    exact ⟨zlhpib, zjjbob⟩

end Go.Proofs.YtbeghfdlbokhkaaDoor.Qc
