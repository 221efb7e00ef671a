import Derived.Test.YtbeghfdlbokhkaaDoorQcx0
import Derived.Test.YtbeghfdlbokhkaaDoorQcx2
namespace Go.Proofs.YtbeghfdlbokhkaaDoor.Qc
open Go.RowKit Go.Proofs.YtbeghfdlbokhkaaDoorW.PrintWords Go.Proofs.YtbeghfdlbokhkaaDoorW.PrintLast Go.Proofs.YtbeghfdlbokhkaaDoorW.PrintMore
attribute [local go_sem] max2_int min2_int max_two min_two max_three min_three max_four min_four
set_option linter.unusedVariables false
set_option linter.unusedSimpArgs false
set_option maxHeartbeats 8000000
set_option maxRecDepth 100000

/-! ### spec_l1Name: function 49 -/
def spec_l1Name.l0 : Nat → ByteArray → Int → Option (Bool)
 | 0, _, _ => none
 | k + 1, x0, x3 => if x3 < (x0.size : Int) then (if 0 ≤ x3 then (if (bt x0 x3) < 97 then (if (bt x0 x3) < 48 then (some false) else (if (bt x0 x3) > 57 then (some false) else (spec_l1Name.l0 k x0 (wrap64 (x3 + 1))))) else (if (bt x0 x3) > 122 then (if (bt x0 x3) < 48 then (some false) else (if (bt x0 x3) > 57 then (some false) else (spec_l1Name.l0 k x0 (wrap64 (x3 + 1))))) else (spec_l1Name.l0 k x0 (wrap64 (x3 + 1))))) else (none)) else ((spec_l1In.f (x0.size : Int) 1 8).bind fun t101 => (some t101))
def spec_l1Name.f (k : Nat) (a0 : ByteArray) : Option (Bool) := spec_l1Name.l0 k a0 0
theorem spec_l1Name.mono_l : ∀ k, (∀ y0 y1, LeO (spec_l1Name.l0 k y0 y1) (spec_l1Name.l0 (k + 1) y0 y1))
 | 0 => fun _ _ r h => by simp [spec_l1Name.l0] at h
 | k + 1 => by
  have ih0 := spec_l1Name.mono_l k
  ·
   intro y0 y1
   unfold spec_l1Name.l0
   with_reducible repeat' first | exact ih0 _ _ | exact LeO.refl _ | exact LeO.none _ | refine LeO.ite ?_ ?_ | refine LeO.bind ?_ (fun _ => ?_)
theorem spec_l1Name.mono : ∀ a0 k, LeO (spec_l1Name.f k a0) (spec_l1Name.f (k + 1) a0) := by
 intro a0 k
 have ih0 := spec_l1Name.mono_l k
 unfold spec_l1Name.f
 with_reducible repeat' first | exact ih0 _ _ | exact LeO.refl _ | exact LeO.none _ | refine LeO.ite ?_ ?_ | refine LeO.bind ?_ (fun _ => ?_)
theorem spec_l1Name.calls (k : Nat) (a0 : ByteArray) (r : Bool) (w : World) (h : spec_l1Name.f k a0 = some r) :
  Calls Tryd.prog 49 #[.string a0] w fun e w' => e = .returned (.bool r) ∧ Drawn0 w w' := by
 have H : (spec_l1Name.l0 k a0 0) = some r := h
 clear h
 have H' := aa H
 clear H
 go_enter Tryd.func49, Tryd.ntmps49
 go_wp2
 go_loopg [3] k (fun kq v3 w' => ∃ (x3_1 : Int), v3 = .int .i64 x3_1 ∧ Aside0 (spec_l1Name.l0 kq a0 x3_1 = some r) ∧ Aside0 (kq ≤ k) ∧ Drawn0 w w')
 case atStart => exact ⟨(0), zagbkp, H', ⟨Nat.le_refl _⟩, ziajdh⟩
 case round =>
  clear H'
  obtain ⟨x3_1, rfl, HA, HK1, ⟨m1, rfl⟩⟩ := hrel
  cases gk with
  | zero => exact absurd HA.out (by simp [spec_l1Name.l0])
  | succ k1 =>
   have H := HA.out
   clear HA
   simp only [spec_l1Name.l0] at H
   revert H
   refine itD_ (fun c2b0 H => ?_) fun c2b0 H => ?_
   ·
    revert H
    refine itH_ fun c3b0 H => ?_
    revert H
    refine itD_ (fun c5b0 H => ?_) fun c5b0 H => ?_
    ·
     revert H
     refine itD_ (fun c7b0 H => ?_) fun c7b0 H => ?_
     ·
      obtain rfl := Option.some.inj H
      have p4 : 0 ≤ (x3_1 : Int) := of_decide_eq_true zgglam
      have q4 : x3_1 < (a0.size : Int) := of_decide_eq_true zgglam
      have hx4 := bt_at a0 x3_1
      replace p4 := eq_true p4
      replace q4 := eq_true q4
      have p6 : 0 ≤ (x3_1 : Int) := of_decide_eq_true zgglam
      have q6 : x3_1 < (a0.size : Int) := of_decide_eq_true zgglam
      have hx6 := bt_at a0 x3_1
      replace p6 := eq_true p6
      replace q6 := eq_true q6
      go_wp2
      go_ret
      exact ⟨zagbkp, ziajdh⟩
     revert H
     refine itC_ (fun c9 H => ?_) fun c9 H => ?_
     ·
      have c9b0 : decide (57 < (bt a0 x3_1)) = true := decide_eq_true c9
      clear c9
      obtain rfl := Option.some.inj H
      have p4 : 0 ≤ (x3_1 : Int) := of_decide_eq_true zgglam
      have q4 : x3_1 < (a0.size : Int) := of_decide_eq_true zgglam
      have hx4 := bt_at a0 x3_1
      replace p4 := eq_true p4
      replace q4 := eq_true q4
      have p6 : 0 ≤ (x3_1 : Int) := of_decide_eq_true zgglam
      have q6 : x3_1 < (a0.size : Int) := of_decide_eq_true zgglam
      have hx6 := bt_at a0 x3_1
      replace p6 := eq_true p6
      replace q6 := eq_true q6
      have p8 : 0 ≤ (x3_1 : Int) := of_decide_eq_true zgglam
      have q8 : x3_1 < (a0.size : Int) := of_decide_eq_true zgglam
      have hx8 := bt_at a0 x3_1
      replace p8 := eq_true p8
      replace q8 := eq_true q8
      go_wp2
      go_ret
      exact ⟨zagbkp, ziajdh⟩
     have c9b0 : decide (57 < (bt a0 x3_1)) = false := decide_eq_false c9
     clear c9
     have H' := aa H
     clear H
     have p4 : 0 ≤ (x3_1 : Int) := of_decide_eq_true zgglam
     have q4 : x3_1 < (a0.size : Int) := of_decide_eq_true zgglam
     have hx4 := bt_at a0 x3_1
     replace p4 := eq_true p4
     replace q4 := eq_true q4
     have p6 : 0 ≤ (x3_1 : Int) := of_decide_eq_true zgglam
     have q6 : x3_1 < (a0.size : Int) := of_decide_eq_true zgglam
     have hx6 := bt_at a0 x3_1
     replace p6 := eq_true p6
     replace q6 := eq_true q6
     have p8 : 0 ≤ (x3_1 : Int) := of_decide_eq_true zgglam
     have q8 : x3_1 < (a0.size : Int) := of_decide_eq_true zgglam
     have hx8 := bt_at a0 x3_1
     replace p8 := eq_true p8
     replace q8 := eq_true q8
     go_wp2
     go_roundg k1
     case measure => have := HK1.out; omega
     case rel => exact ⟨(wrap64 (x3_1 + 1)), zagbkp, H', ⟨by have := HK1.out; omega⟩, ziajdh⟩
    revert H
    refine itC_ (fun c11 H => ?_) fun c11 H => ?_
    ·
     have c11b0 : decide (122 < (bt a0 x3_1)) = true := decide_eq_true c11
     clear c11
     revert H
     refine itD_ (fun c13b0 H => ?_) fun c13b0 H => ?_
     ·
      obtain rfl := Option.some.inj H
      have p4 : 0 ≤ (x3_1 : Int) := of_decide_eq_true zgglam
      have q4 : x3_1 < (a0.size : Int) := of_decide_eq_true zgglam
      have hx4 := bt_at a0 x3_1
      replace p4 := eq_true p4
      replace q4 := eq_true q4
      have p10 : 0 ≤ (x3_1 : Int) := of_decide_eq_true zgglam
      have q10 : x3_1 < (a0.size : Int) := of_decide_eq_true zgglam
      have hx10 := bt_at a0 x3_1
      replace p10 := eq_true p10
      replace q10 := eq_true q10
      have p12 : 0 ≤ (x3_1 : Int) := of_decide_eq_true zgglam
      have q12 : x3_1 < (a0.size : Int) := of_decide_eq_true zgglam
      have hx12 := bt_at a0 x3_1
      replace p12 := eq_true p12
      replace q12 := eq_true q12
      go_wp2
      go_ret
      exact ⟨zagbkp, ziajdh⟩
     revert H
     refine itC_ (fun c15 H => ?_) fun c15 H => ?_
     ·
      have c15b0 : decide (57 < (bt a0 x3_1)) = true := decide_eq_true c15
      clear c15
      obtain rfl := Option.some.inj H
      have p4 : 0 ≤ (x3_1 : Int) := of_decide_eq_true zgglam
      have q4 : x3_1 < (a0.size : Int) := of_decide_eq_true zgglam
      have hx4 := bt_at a0 x3_1
      replace p4 := eq_true p4
      replace q4 := eq_true q4
      have p10 : 0 ≤ (x3_1 : Int) := of_decide_eq_true zgglam
      have q10 : x3_1 < (a0.size : Int) := of_decide_eq_true zgglam
      have hx10 := bt_at a0 x3_1
      replace p10 := eq_true p10
      replace q10 := eq_true q10
      have p12 : 0 ≤ (x3_1 : Int) := of_decide_eq_true zgglam
      have q12 : x3_1 < (a0.size : Int) := of_decide_eq_true zgglam
      have hx12 := bt_at a0 x3_1
      replace p12 := eq_true p12
      replace q12 := eq_true q12
      have p14 : 0 ≤ (x3_1 : Int) := of_decide_eq_true zgglam
      have q14 : x3_1 < (a0.size : Int) := of_decide_eq_true zgglam
      have hx14 := bt_at a0 x3_1
      replace p14 := eq_true p14
      replace q14 := eq_true q14
      go_wp2
      go_ret
      exact ⟨zagbkp, ziajdh⟩
     have c15b0 : decide (57 < (bt a0 x3_1)) = false := decide_eq_false c15
     clear c15
     have H' := aa H
     clear H
     have p4 : 0 ≤ (x3_1 : Int) := of_decide_eq_true zgglam
     have q4 : x3_1 < (a0.size : Int) := of_decide_eq_true zgglam
     have hx4 := bt_at a0 x3_1
     replace p4 := eq_true p4
     replace q4 := eq_true q4
     have p10 : 0 ≤ (x3_1 : Int) := of_decide_eq_true zgglam
     have q10 : x3_1 < (a0.size : Int) := of_decide_eq_true zgglam
     have hx10 := bt_at a0 x3_1
     replace p10 := eq_true p10
     replace q10 := eq_true q10
     have p12 : 0 ≤ (x3_1 : Int) := of_decide_eq_true zgglam
     have q12 : x3_1 < (a0.size : Int) := of_decide_eq_true zgglam
     have hx12 := bt_at a0 x3_1
     replace p12 := eq_true p12
     replace q12 := eq_true q12
     have p14 : 0 ≤ (x3_1 : Int) := of_decide_eq_true zgglam
     have q14 : x3_1 < (a0.size : Int) := of_decide_eq_true zgglam
     have hx14 := bt_at a0 x3_1
     replace p14 := eq_true p14
     replace q14 := eq_true q14
     go_wp2
     go_roundg k1
     case measure => have := HK1.out; omega
     case rel => exact ⟨(wrap64 (x3_1 + 1)), zagbkp, H', ⟨by have := HK1.out; omega⟩, ziajdh⟩
    have c11b0 : decide (122 < (bt a0 x3_1)) = false := decide_eq_false c11
    clear c11
    have H' := aa H
    clear H
    have p4 : 0 ≤ (x3_1 : Int) := of_decide_eq_true zgglam
    have q4 : x3_1 < (a0.size : Int) := of_decide_eq_true zgglam
    have hx4 := bt_at a0 x3_1
    replace p4 := eq_true p4
    replace q4 := eq_true q4
    have p10 : 0 ≤ (x3_1 : Int) := of_decide_eq_true zgglam
    have q10 : x3_1 < (a0.size : Int) := of_decide_eq_true zgglam
    have hx10 := bt_at a0 x3_1
    replace p10 := eq_true p10
    replace q10 := eq_true q10
    go_wp2
    go_roundg k1
    case measure => have := HK1.out; omega
    case rel => exact ⟨(wrap64 (x3_1 + 1)), zagbkp, H', ⟨by have := HK1.out; omega⟩, ziajdh⟩
   ·
    revert H
    refine obs_ fun t101 A16 H => ?_
    obtain rfl := Option.some.inj H
    go_wp2_with (first | (refine gc_ Tryd.func29 (some 34) #[.int .i64 (a0.size : Int), .int .i64 1, .int .i64 8] ?_; (with_reducible refine (spec_l1In.calls (a0.size : Int) 1 8 t101 _ A16.out).mono ?_); rintro e w' ⟨rfl, ⟨nd, rfl⟩⟩; refine ⟨_, rfl, ?_⟩))
    go_ret
    exact ⟨zagbkp, ziajdh⟩

end Go.Proofs.YtbeghfdlbokhkaaDoor.Qc
