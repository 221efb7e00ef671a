import Derived.Test.YtegggpipggniaaaDoorQax0
import Derived.Test.YtegggpipggniaaaDoorQax7
namespace Go.Proofs.YtegggpipggniaaaDoor.Qa
open Go.RowKit Go.Proofs.YtegggpipggniaaaDoorW.PrintWords Go.Proofs.YtegggpipggniaaaDoorW.PrintLast Go.Proofs.YtegggpipggniaaaDoorW.PrintMore
attribute [local go_sem] max2_int min2_int max_two min_two max_three min_three max_four min_four
set_option linter.unusedVariables false
set_option linter.unusedSimpArgs false
set_option maxHeartbeats 8000000
set_option maxRecDepth 100000

/-! ### impl_isName: function 54 -/
def impl_isName.l0 : Nat → ByteArray → Int → Int → Option (Bool)
 | 0, _, _, _ => none
 | k + 1, x0, x5, x6 => if x6 < x5 then (if 0 ≤ x6 then (if x6 < (x0.size : Int) then (if (bt x0 x6) < 97 then (if (bt x0 x6) < 48 then (some false) else (if (bt x0 x6) > 57 then (some false) else (impl_isName.l0 k x0 x5 (wrap64 (x6 + 1))))) else (if (bt x0 x6) > 122 then (if (bt x0 x6) < 48 then (some false) else (if (bt x0 x6) > 57 then (some false) else (impl_isName.l0 k x0 x5 (wrap64 (x6 + 1))))) else (impl_isName.l0 k x0 x5 (wrap64 (x6 + 1))))) else (none)) else (none)) else ((impl_within.f (x0.size : Int) 1 8).bind fun t101 => (some t101))
def impl_isName.f (k : Nat) (a0 : ByteArray) : Option (Bool) := impl_isName.l0 k a0 (a0.size : Int) 0
theorem impl_isName.mono_l : ∀ k, (∀ y0 y1 y2, LeO (impl_isName.l0 k y0 y1 y2) (impl_isName.l0 (k + 1) y0 y1 y2))
 | 0 => fun _ _ _ r h => by simp [impl_isName.l0] at h
 | k + 1 => by
  have ih0 := impl_isName.mono_l k
  ·
   intro y0 y1 y2
   unfold impl_isName.l0
   with_reducible repeat' first | exact ih0 _ _ _ | exact LeO.refl _ | exact LeO.none _ | refine LeO.ite ?_ ?_ | refine LeO.bind ?_ (fun _ => ?_)
theorem impl_isName.mono : ∀ a0 k, LeO (impl_isName.f k a0) (impl_isName.f (k + 1) a0) := by
 intro a0 k
 have ih0 := impl_isName.mono_l k
 unfold impl_isName.f
 with_reducible repeat' first | exact ih0 _ _ _ | exact LeO.refl _ | exact LeO.none _ | refine LeO.ite ?_ ?_ | refine LeO.bind ?_ (fun _ => ?_)
theorem impl_isName.calls (k : Nat) (a0 : ByteArray) (r : Bool) (w : World) (h : impl_isName.f k a0 = some r) :
  Calls Tryd.prog 54 #[.string a0] w fun e w' => e = .returned (.bool r) ∧ Drawn0 w w' := by
 have H : (impl_isName.l0 k a0 (a0.size : Int) 0) = some r := h
 clear h
 have H' := aa H
 clear H
 go_enter Tryd.func54, Tryd.ntmps54
 go_wp2
 go_loopg [6] k (fun kq v6 w' => ∃ (x6_1 : Int), v6 = .int .i64 x6_1 ∧ Aside0 (impl_isName.l0 kq a0 (a0.size : Int) x6_1 = some r) ∧ Aside0 (kq ≤ k) ∧ Drawn0 w w')
 case atStart => exact ⟨(0), zagbkp, H', ⟨Nat.le_refl _⟩, ziajdh⟩
 case round =>
  clear H'
  obtain ⟨x6_1, rfl, HA, HK1, ⟨m1, rfl⟩⟩ := hrel
  cases gk with
  | zero => exact absurd HA.out (by simp [impl_isName.l0])
  | succ k1 =>
   have H := HA.out
   clear HA
   simp only [impl_isName.l0] at H
   revert H
   refine itD_ (fun c2b0 H => ?_) fun c2b0 H => ?_
   ·
    revert H
    refine itH_ fun c3b0 H => ?_
    revert H
    refine itH_ fun c4b0 H => ?_
    revert H
    refine itD_ (fun c6b0 H => ?_) fun c6b0 H => ?_
    ·
     revert H
     refine itD_ (fun c8b0 H => ?_) fun c8b0 H => ?_
     ·
      obtain rfl := Option.some.inj H
      have p5 : 0 ≤ (x6_1 : Int) := of_decide_eq_true zgglam
      have q5 : x6_1 < (a0.size : Int) := of_decide_eq_true zgglam
      have hx5 := bt_at a0 x6_1
      replace p5 := eq_true p5
      replace q5 := eq_true q5
      have p7 : 0 ≤ (x6_1 : Int) := of_decide_eq_true zgglam
      have q7 : x6_1 < (a0.size : Int) := of_decide_eq_true zgglam
      have hx7 := bt_at a0 x6_1
      replace p7 := eq_true p7
      replace q7 := eq_true q7
      go_wp2
      go_ret
      exact ⟨zagbkp, ziajdh⟩
     revert H
     refine itC_ (fun c10 H => ?_) fun c10 H => ?_
     ·
      have c10b0 : decide (57 < (bt a0 x6_1)) = true := decide_eq_true c10
      clear c10
      obtain rfl := Option.some.inj H
      have p5 : 0 ≤ (x6_1 : Int) := of_decide_eq_true zgglam
      have q5 : x6_1 < (a0.size : Int) := of_decide_eq_true zgglam
      have hx5 := bt_at a0 x6_1
      replace p5 := eq_true p5
      replace q5 := eq_true q5
      have p7 : 0 ≤ (x6_1 : Int) := of_decide_eq_true zgglam
      have q7 : x6_1 < (a0.size : Int) := of_decide_eq_true zgglam
      have hx7 := bt_at a0 x6_1
      replace p7 := eq_true p7
      replace q7 := eq_true q7
      have p9 : 0 ≤ (x6_1 : Int) := of_decide_eq_true zgglam
      have q9 : x6_1 < (a0.size : Int) := of_decide_eq_true zgglam
      have hx9 := bt_at a0 x6_1
      replace p9 := eq_true p9
      replace q9 := eq_true q9
      go_wp2
      go_ret
      exact ⟨zagbkp, ziajdh⟩
     have c10b0 : decide (57 < (bt a0 x6_1)) = false := decide_eq_false c10
     clear c10
     have H' := aa H
     clear H
     have p5 : 0 ≤ (x6_1 : Int) := of_decide_eq_true zgglam
     have q5 : x6_1 < (a0.size : Int) := of_decide_eq_true zgglam
     have hx5 := bt_at a0 x6_1
     replace p5 := eq_true p5
     replace q5 := eq_true q5
     have p7 : 0 ≤ (x6_1 : Int) := of_decide_eq_true zgglam
     have q7 : x6_1 < (a0.size : Int) := of_decide_eq_true zgglam
     have hx7 := bt_at a0 x6_1
     replace p7 := eq_true p7
     replace q7 := eq_true q7
     have p9 : 0 ≤ (x6_1 : Int) := of_decide_eq_true zgglam
     have q9 : x6_1 < (a0.size : Int) := of_decide_eq_true zgglam
     have hx9 := bt_at a0 x6_1
     replace p9 := eq_true p9
     replace q9 := eq_true q9
     go_wp2
     go_roundg k1
     case measure => have := HK1.out; omega
     case rel => exact ⟨(wrap64 (x6_1 + 1)), zagbkp, H', ⟨by have := HK1.out; omega⟩, ziajdh⟩
    revert H
    refine itC_ (fun c12 H => ?_) fun c12 H => ?_
    ·
     have c12b0 : decide (122 < (bt a0 x6_1)) = true := decide_eq_true c12
     clear c12
     revert H
     refine itD_ (fun c14b0 H => ?_) fun c14b0 H => ?_
     ·
      obtain rfl := Option.some.inj H
      have p5 : 0 ≤ (x6_1 : Int) := of_decide_eq_true zgglam
      have q5 : x6_1 < (a0.size : Int) := of_decide_eq_true zgglam
      have hx5 := bt_at a0 x6_1
      replace p5 := eq_true p5
      replace q5 := eq_true q5
      have p11 : 0 ≤ (x6_1 : Int) := of_decide_eq_true zgglam
      have q11 : x6_1 < (a0.size : Int) := of_decide_eq_true zgglam
      have hx11 := bt_at a0 x6_1
      replace p11 := eq_true p11
      replace q11 := eq_true q11
      have p13 : 0 ≤ (x6_1 : Int) := of_decide_eq_true zgglam
      have q13 : x6_1 < (a0.size : Int) := of_decide_eq_true zgglam
      have hx13 := bt_at a0 x6_1
      replace p13 := eq_true p13
      replace q13 := eq_true q13
      go_wp2
      go_ret
      exact ⟨zagbkp, ziajdh⟩
     revert H
     refine itC_ (fun c16 H => ?_) fun c16 H => ?_
     ·
      have c16b0 : decide (57 < (bt a0 x6_1)) = true := decide_eq_true c16
      clear c16
      obtain rfl := Option.some.inj H
      have p5 : 0 ≤ (x6_1 : Int) := of_decide_eq_true zgglam
      have q5 : x6_1 < (a0.size : Int) := of_decide_eq_true zgglam
      have hx5 := bt_at a0 x6_1
      replace p5 := eq_true p5
      replace q5 := eq_true q5
      have p11 : 0 ≤ (x6_1 : Int) := of_decide_eq_true zgglam
      have q11 : x6_1 < (a0.size : Int) := of_decide_eq_true zgglam
      have hx11 := bt_at a0 x6_1
      replace p11 := eq_true p11
      replace q11 := eq_true q11
      have p13 : 0 ≤ (x6_1 : Int) := of_decide_eq_true zgglam
      have q13 : x6_1 < (a0.size : Int) := of_decide_eq_true zgglam
      have hx13 := bt_at a0 x6_1
      replace p13 := eq_true p13
      replace q13 := eq_true q13
      have p15 : 0 ≤ (x6_1 : Int) := of_decide_eq_true zgglam
      have q15 : x6_1 < (a0.size : Int) := of_decide_eq_true zgglam
      have hx15 := bt_at a0 x6_1
      replace p15 := eq_true p15
      replace q15 := eq_true q15
      go_wp2
      go_ret
      exact ⟨zagbkp, ziajdh⟩
     have c16b0 : decide (57 < (bt a0 x6_1)) = false := decide_eq_false c16
     clear c16
     have H' := aa H
     clear H
     have p5 : 0 ≤ (x6_1 : Int) := of_decide_eq_true zgglam
     have q5 : x6_1 < (a0.size : Int) := of_decide_eq_true zgglam
     have hx5 := bt_at a0 x6_1
     replace p5 := eq_true p5
     replace q5 := eq_true q5
     have p11 : 0 ≤ (x6_1 : Int) := of_decide_eq_true zgglam
     have q11 : x6_1 < (a0.size : Int) := of_decide_eq_true zgglam
     have hx11 := bt_at a0 x6_1
     replace p11 := eq_true p11
     replace q11 := eq_true q11
     have p13 : 0 ≤ (x6_1 : Int) := of_decide_eq_true zgglam
     have q13 : x6_1 < (a0.size : Int) := of_decide_eq_true zgglam
     have hx13 := bt_at a0 x6_1
     replace p13 := eq_true p13
     replace q13 := eq_true q13
     have p15 : 0 ≤ (x6_1 : Int) := of_decide_eq_true zgglam
     have q15 : x6_1 < (a0.size : Int) := of_decide_eq_true zgglam
     have hx15 := bt_at a0 x6_1
     replace p15 := eq_true p15
     replace q15 := eq_true q15
     go_wp2
     go_roundg k1
     case measure => have := HK1.out; omega
     case rel => exact ⟨(wrap64 (x6_1 + 1)), zagbkp, H', ⟨by have := HK1.out; omega⟩, ziajdh⟩
    have c12b0 : decide (122 < (bt a0 x6_1)) = false := decide_eq_false c12
    clear c12
    have H' := aa H
    clear H
    have p5 : 0 ≤ (x6_1 : Int) := of_decide_eq_true zgglam
    have q5 : x6_1 < (a0.size : Int) := of_decide_eq_true zgglam
    have hx5 := bt_at a0 x6_1
    replace p5 := eq_true p5
    replace q5 := eq_true q5
    have p11 : 0 ≤ (x6_1 : Int) := of_decide_eq_true zgglam
    have q11 : x6_1 < (a0.size : Int) := of_decide_eq_true zgglam
    have hx11 := bt_at a0 x6_1
    replace p11 := eq_true p11
    replace q11 := eq_true q11
    go_wp2
    go_roundg k1
    case measure => have := HK1.out; omega
    case rel => exact ⟨(wrap64 (x6_1 + 1)), zagbkp, H', ⟨by have := HK1.out; omega⟩, ziajdh⟩
   ·
    revert H
    refine obs_ fun t101 A17 H => ?_
    obtain rfl := Option.some.inj H
    go_wp2_with (first | (refine gc_ Tryd.func55 (some 34) #[.int .i64 (a0.size : Int), .int .i64 1, .int .i64 8] ?_; (with_reducible refine (impl_within.calls (a0.size : Int) 1 8 t101 _ A17.out).mono ?_); rintro e w' ⟨rfl, ⟨nd, rfl⟩⟩; refine ⟨_, rfl, ?_⟩))
    go_ret
    exact ⟨zagbkp, ziajdh⟩

end Go.Proofs.YtegggpipggniaaaDoor.Qa
