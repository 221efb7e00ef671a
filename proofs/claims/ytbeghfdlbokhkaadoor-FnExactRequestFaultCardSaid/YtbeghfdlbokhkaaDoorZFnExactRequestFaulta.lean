/- A part of the proof that for every input the law FnExactRequestFault returns true: no condition. Functions of the translation, each proved to do what a plain Lean function tells, and what these tell. -/
import Derived.Test.YtbeghfdlbokhkaaDoorQcx0
import Derived.Test.YtbeghfdlbokhkaaDoorQcx18
import Derived.Test.YtbeghfdlbokhkaaDoorQcx19
import Derived.Test.YtbeghfdlbokhkaaDoorQcx21
import Derived.Test.YtbeghfdlbokhkaaDoorQcx14
import Derived.Test.YtbeghfdlbokhkaaDoorQcx17
namespace Go.Proofs.YtbeghfdlbokhkaaDoor.Qc
open Go.RowKit Go.Proofs.YtbeghfdlbokhkaaDoorW.PrintWords Go.Proofs.YtbeghfdlbokhkaaDoorW.PrintLast Go.Proofs.YtbeghfdlbokhkaaDoorW.PrintMore
attribute [local go_sem] max2_int min2_int max_two min_two max_three min_three max_four min_four
set_option linter.unusedVariables false
set_option linter.unusedSimpArgs false
set_option maxHeartbeats 8000000
set_option maxRecDepth 100000
def impl_isName.l0 : Nat → ByteArray → Int → Int → Option (Bool)
 | 0, _, _, _ => none
 | k + 1, x0, x5, x6 => if x6 < x5 then (if 0 ≤ x6 then (if x6 < (x0.size : Int) then (if (bt x0 x6) < 97 then (if (bt x0 x6) < 48 then (some false) else (if (bt x0 x6) > 57 then (some false) else (impl_isName.l0 k x0 x5 (wrap64 (x6 + 1))))) else (if (bt x0 x6) > 122 then (if (bt x0 x6) < 48 then (some false) else (if (bt x0 x6) > 57 then (some false) else (impl_isName.l0 k x0 x5 (wrap64 (x6 + 1))))) else (impl_isName.l0 k x0 x5 (wrap64 (x6 + 1))))) else (none)) else (none)) else ((impl_within.f (x0.size : Int) 1 8).bind fun t101 => (some t101))
def impl_isName.f (k : Nat) (a0 : ByteArray) : Option (Bool) := impl_isName.l0 k a0 (a0.size : Int) 0
theorem impl_isName.mono_l : ∀ k, (∀ y0 y1 y2, LeO (impl_isName.l0 k y0 y1 y2) (impl_isName.l0 (k + 1) y0 y1 y2))
 | 0 => fun _ _ _ r h => by simp [impl_isName.l0] at h
 | k + 1 => by
  have ih0 := impl_isName.mono_l k
  ·
   intro y0 y1 y2
   unfold impl_isName.l0
   with_reducible repeat' first | exact ih0 _ _ _ | exact LeO.refl _ | exact LeO.none _ | refine LeO.ite ?_ ?_ | refine LeO.bind ?_ (fun _ => ?_)
theorem impl_isName.mono : ∀ a0 k, LeO (impl_isName.f k a0) (impl_isName.f (k + 1) a0) := by
 intro a0 k
 have ih0 := impl_isName.mono_l k
 unfold impl_isName.f
 with_reducible repeat' first | exact ih0 _ _ _ | exact LeO.refl _ | exact LeO.none _ | refine LeO.ite ?_ ?_ | refine LeO.bind ?_ (fun _ => ?_)
theorem impl_isName.calls (k : Nat) (a0 : ByteArray) (r : Bool) (w : World) (h : impl_isName.f k a0 = some r) :
  Calls Tryd.prog 38 #[.string a0] w fun e w' => e = .returned (.bool r) ∧ Drawn0 w w' := by
 have H : (impl_isName.l0 k a0 (a0.size : Int) 0) = some r := h
 clear h
 have H' := aa H
 clear H
 go_enter Tryd.func38, Tryd.ntmps38
 go_wp2
 go_loopg [6] k (fun kq v6 w' => ∃ (x6_1 : Int), v6 = .int .i64 x6_1 ∧ Aside0 (impl_isName.l0 kq a0 (a0.size : Int) x6_1 = some r) ∧ Aside0 (kq ≤ k) ∧ Drawn0 w w')
 case atStart => exact ⟨(0), zagbkp, H', ⟨Nat.le_refl _⟩, ziajdh⟩
 case round =>
  clear H'
  obtain ⟨x6_1, rfl, HA, HK1, ⟨m1, rfl⟩⟩ := hrel
  cases gk with
  | zero => exact absurd HA.out (by simp [impl_isName.l0])
  | succ k1 =>
   have H := HA.out
   clear HA
   simp only [impl_isName.l0] at H
   revert H
   refine itD_ (fun c2b0 H => ?_) fun c2b0 H => ?_
   ·
    revert H
    refine itH_ fun c3b0 H => ?_
    revert H
    refine itH_ fun c4b0 H => ?_
    revert H
    refine itD_ (fun c6b0 H => ?_) fun c6b0 H => ?_
    ·
     revert H
     refine itD_ (fun c8b0 H => ?_) fun c8b0 H => ?_
     ·
      obtain rfl := Option.some.inj H
      have p5 : 0 ≤ (x6_1 : Int) := of_decide_eq_true zgglam
      have q5 : x6_1 < (a0.size : Int) := of_decide_eq_true zgglam
      have hx5 := bt_at a0 x6_1
      replace p5 := eq_true p5
      replace q5 := eq_true q5
      have p7 : 0 ≤ (x6_1 : Int) := of_decide_eq_true zgglam
      have q7 : x6_1 < (a0.size : Int) := of_decide_eq_true zgglam
      have hx7 := bt_at a0 x6_1
      replace p7 := eq_true p7
      replace q7 := eq_true q7
      go_wp2
      go_ret
      exact ⟨zagbkp, ziajdh⟩
     revert H
     refine itC_ (fun c10 H => ?_) fun c10 H => ?_
     ·
      have c10b0 : decide (57 < (bt a0 x6_1)) = true := decide_eq_true c10
      clear c10
      obtain rfl := Option.some.inj H
      have p5 : 0 ≤ (x6_1 : Int) := of_decide_eq_true zgglam
      have q5 : x6_1 < (a0.size : Int) := of_decide_eq_true zgglam
      have hx5 := bt_at a0 x6_1
      replace p5 := eq_true p5
      replace q5 := eq_true q5
      have p7 : 0 ≤ (x6_1 : Int) := of_decide_eq_true zgglam
      have q7 : x6_1 < (a0.size : Int) := of_decide_eq_true zgglam
      have hx7 := bt_at a0 x6_1
      replace p7 := eq_true p7
      replace q7 := eq_true q7
      have p9 : 0 ≤ (x6_1 : Int) := of_decide_eq_true zgglam
      have q9 : x6_1 < (a0.size : Int) := of_decide_eq_true zgglam
      have hx9 := bt_at a0 x6_1
      replace p9 := eq_true p9
      replace q9 := eq_true q9
      go_wp2
      go_ret
      exact ⟨zagbkp, ziajdh⟩
     have c10b0 : decide (57 < (bt a0 x6_1)) = false := decide_eq_false c10
     clear c10
     have H' := aa H
     clear H
     have p5 : 0 ≤ (x6_1 : Int) := of_decide_eq_true zgglam
     have q5 : x6_1 < (a0.size : Int) := of_decide_eq_true zgglam
     have hx5 := bt_at a0 x6_1
     replace p5 := eq_true p5
     replace q5 := eq_true q5
     have p7 : 0 ≤ (x6_1 : Int) := of_decide_eq_true zgglam
     have q7 : x6_1 < (a0.size : Int) := of_decide_eq_true zgglam
     have hx7 := bt_at a0 x6_1
     replace p7 := eq_true p7
     replace q7 := eq_true q7
     have p9 : 0 ≤ (x6_1 : Int) := of_decide_eq_true zgglam
     have q9 : x6_1 < (a0.size : Int) := of_decide_eq_true zgglam
     have hx9 := bt_at a0 x6_1
     replace p9 := eq_true p9
     replace q9 := eq_true q9
     go_wp2
     go_roundg k1
     case measure => have := HK1.out; omega
     case rel => exact ⟨(wrap64 (x6_1 + 1)), zagbkp, H', ⟨by have := HK1.out; omega⟩, ziajdh⟩
    revert H
    refine itC_ (fun c12 H => ?_) fun c12 H => ?_
    ·
     have c12b0 : decide (122 < (bt a0 x6_1)) = true := decide_eq_true c12
     clear c12
     revert H
     refine itD_ (fun c14b0 H => ?_) fun c14b0 H => ?_
     ·
      obtain rfl := Option.some.inj H
      have p5 : 0 ≤ (x6_1 : Int) := of_decide_eq_true zgglam
      have q5 : x6_1 < (a0.size : Int) := of_decide_eq_true zgglam
      have hx5 := bt_at a0 x6_1
      replace p5 := eq_true p5
      replace q5 := eq_true q5
      have p11 : 0 ≤ (x6_1 : Int) := of_decide_eq_true zgglam
      have q11 : x6_1 < (a0.size : Int) := of_decide_eq_true zgglam
      have hx11 := bt_at a0 x6_1
      replace p11 := eq_true p11
      replace q11 := eq_true q11
      have p13 : 0 ≤ (x6_1 : Int) := of_decide_eq_true zgglam
      have q13 : x6_1 < (a0.size : Int) := of_decide_eq_true zgglam
      have hx13 := bt_at a0 x6_1
      replace p13 := eq_true p13
      replace q13 := eq_true q13
      go_wp2
      go_ret
      exact ⟨zagbkp, ziajdh⟩
     revert H
     refine itC_ (fun c16 H => ?_) fun c16 H => ?_
     ·
      have c16b0 : decide (57 < (bt a0 x6_1)) = true := decide_eq_true c16
      clear c16
      obtain rfl := Option.some.inj H
      have p5 : 0 ≤ (x6_1 : Int) := of_decide_eq_true zgglam
      have q5 : x6_1 < (a0.size : Int) := of_decide_eq_true zgglam
      have hx5 := bt_at a0 x6_1
      replace p5 := eq_true p5
      replace q5 := eq_true q5
      have p11 : 0 ≤ (x6_1 : Int) := of_decide_eq_true zgglam
      have q11 : x6_1 < (a0.size : Int) := of_decide_eq_true zgglam
      have hx11 := bt_at a0 x6_1
      replace p11 := eq_true p11
      replace q11 := eq_true q11
      have p13 : 0 ≤ (x6_1 : Int) := of_decide_eq_true zgglam
      have q13 : x6_1 < (a0.size : Int) := of_decide_eq_true zgglam
      have hx13 := bt_at a0 x6_1
      replace p13 := eq_true p13
      replace q13 := eq_true q13
      have p15 : 0 ≤ (x6_1 : Int) := of_decide_eq_true zgglam
      have q15 : x6_1 < (a0.size : Int) := of_decide_eq_true zgglam
      have hx15 := bt_at a0 x6_1
      replace p15 := eq_true p15
      replace q15 := eq_true q15
      go_wp2
      go_ret
      exact ⟨zagbkp, ziajdh⟩
     have c16b0 : decide (57 < (bt a0 x6_1)) = false := decide_eq_false c16
     clear c16
     have H' := aa H
     clear H
     have p5 : 0 ≤ (x6_1 : Int) := of_decide_eq_true zgglam
     have q5 : x6_1 < (a0.size : Int) := of_decide_eq_true zgglam
     have hx5 := bt_at a0 x6_1
     replace p5 := eq_true p5
     replace q5 := eq_true q5
     have p11 : 0 ≤ (x6_1 : Int) := of_decide_eq_true zgglam
     have q11 : x6_1 < (a0.size : Int) := of_decide_eq_true zgglam
     have hx11 := bt_at a0 x6_1
     replace p11 := eq_true p11
     replace q11 := eq_true q11
     have p13 : 0 ≤ (x6_1 : Int) := of_decide_eq_true zgglam
     have q13 : x6_1 < (a0.size : Int) := of_decide_eq_true zgglam
     have hx13 := bt_at a0 x6_1
     replace p13 := eq_true p13
     replace q13 := eq_true q13
     have p15 : 0 ≤ (x6_1 : Int) := of_decide_eq_true zgglam
     have q15 : x6_1 < (a0.size : Int) := of_decide_eq_true zgglam
     have hx15 := bt_at a0 x6_1
     replace p15 := eq_true p15
     replace q15 := eq_true q15
     go_wp2
     go_roundg k1
     case measure => have := HK1.out; omega
     case rel => exact ⟨(wrap64 (x6_1 + 1)), zagbkp, H', ⟨by have := HK1.out; omega⟩, ziajdh⟩
    have c12b0 : decide (122 < (bt a0 x6_1)) = false := decide_eq_false c12
    clear c12
    have H' := aa H
    clear H
    have p5 : 0 ≤ (x6_1 : Int) := of_decide_eq_true zgglam
    have q5 : x6_1 < (a0.size : Int) := of_decide_eq_true zgglam
    have hx5 := bt_at a0 x6_1
    replace p5 := eq_true p5
    replace q5 := eq_true q5
    have p11 : 0 ≤ (x6_1 : Int) := of_decide_eq_true zgglam
    have q11 : x6_1 < (a0.size : Int) := of_decide_eq_true zgglam
    have hx11 := bt_at a0 x6_1
    replace p11 := eq_true p11
    replace q11 := eq_true q11
    go_wp2
    go_roundg k1
    case measure => have := HK1.out; omega
    case rel => exact ⟨(wrap64 (x6_1 + 1)), zagbkp, H', ⟨by have := HK1.out; omega⟩, ziajdh⟩
   ·
    revert H
    refine obs_ fun t101 A17 H => ?_
    obtain rfl := Option.some.inj H
    go_wp2_with (first | (refine gc_ Tryd.func18 (some 34) #[.int .i64 (a0.size : Int), .int .i64 1, .int .i64 8] ?_; (with_reducible refine (impl_within.calls (a0.size : Int) 1 8 t101 _ A17.out).mono ?_); rintro e w' ⟨rfl, ⟨nd, rfl⟩⟩; refine ⟨_, rfl, ?_⟩))
    go_ret
    exact ⟨zagbkp, ziajdh⟩
mutual
def impl_PathFault.j0 : Nat → ByteArray → Bool → Option (Int)
 | 0, _, _ => none
 | k + 1, x0, x13 => if x13 = true then (some 2) else (if x0.toList = ([47] : List UInt8) then (some 0) else ((strings_Split.f k x0 (⟨#[47]⟩ : ByteArray)).bind fun t102 => (if (t102.length : Int) < 2 then (impl_PathFault.j1 k t102 true) else (if 0 < (t102.length : Int) then (impl_PathFault.j1 k t102 ((rdOf ByteArray.empty t102 0).toList != ([] : List UInt8))) else (none)))))
def impl_PathFault.j1 : Nat → List ByteArray → Bool → Option (Int)
 | 0, _, _ => none
 | k + 1, x3, x26 => if x26 = true then (some 5) else (if 1 ≤ (x3.length : Int) then ((some (x3.drop 1 : List ByteArray)).bind fun y106 => (impl_PathFault.l0 k y106 (y106.length : Int) 0)) else (none))
def impl_PathFault.l0 : Nat → List ByteArray → Int → Int → Option (Int)
 | 0, _, _, _ => none
 | k + 1, x28, x29, x30 => if x30 < x29 then (if 0 ≤ x30 then (if x30 < (x28.length : Int) then ((impl_isName.f k (rdOf ByteArray.empty x28 x30)).bind fun t111 => (if t111 = true then (impl_PathFault.l0 k x28 x29 (wrap64 (x30 + 1))) else (some 5))) else (none)) else (none)) else (some 0)
end
def impl_PathFault.f (k : Nat) (a0 : ByteArray) : Option (Int) := if (a0.size : Int) > 24 then (impl_PathFault.j0 k a0 true) else ((strings_Count.f a0 (⟨#[47]⟩ : ByteArray)).bind fun t101 => (impl_PathFault.j0 k a0 (decide (t101 > 4))))
theorem impl_PathFault.mono_l : ∀ k, (∀ y0 y1, LeO (impl_PathFault.j0 k y0 y1) (impl_PathFault.j0 (k + 1) y0 y1)) ∧ (∀ y0 y1, LeO (impl_PathFault.j1 k y0 y1) (impl_PathFault.j1 (k + 1) y0 y1)) ∧ (∀ y0 y1 y2, LeO (impl_PathFault.l0 k y0 y1 y2) (impl_PathFault.l0 (k + 1) y0 y1 y2))
 | 0 => ⟨fun _ _ r h => by simp [impl_PathFault.j0] at h, fun _ _ r h => by simp [impl_PathFault.j1] at h, fun _ _ _ r h => by simp [impl_PathFault.l0] at h⟩
 | k + 1 => by
  obtain ⟨ih0, ih1, ih2⟩ := impl_PathFault.mono_l k
  refine ⟨?_, ?_, ?_⟩
  ·
   intro y0 y1
   unfold impl_PathFault.j0
   with_reducible repeat' first | exact ih0 _ _ | exact ih1 _ _ | exact ih2 _ _ _ | exact impl_isName.mono _ _ | exact strings_Split.mono _ _ _ | exact LeO.refl _ | exact LeO.none _ | refine LeO.ite ?_ ?_ | refine LeO.bind ?_ (fun _ => ?_)
  ·
   intro y0 y1
   unfold impl_PathFault.j1
   with_reducible repeat' first | exact ih0 _ _ | exact ih1 _ _ | exact ih2 _ _ _ | exact impl_isName.mono _ _ | exact strings_Split.mono _ _ _ | exact LeO.refl _ | exact LeO.none _ | refine LeO.ite ?_ ?_ | refine LeO.bind ?_ (fun _ => ?_)
  ·
   intro y0 y1 y2
   unfold impl_PathFault.l0
   with_reducible repeat' first | exact ih0 _ _ | exact ih1 _ _ | exact ih2 _ _ _ | exact impl_isName.mono _ _ | exact strings_Split.mono _ _ _ | exact LeO.refl _ | exact LeO.none _ | refine LeO.ite ?_ ?_ | refine LeO.bind ?_ (fun _ => ?_)
theorem impl_PathFault.mono : ∀ a0 k, LeO (impl_PathFault.f k a0) (impl_PathFault.f (k + 1) a0) := by
 intro a0 k
 obtain ⟨ih0, ih1, ih2⟩ := impl_PathFault.mono_l k
 unfold impl_PathFault.f
 with_reducible repeat' first | exact ih0 _ _ | exact ih1 _ _ | exact ih2 _ _ _ | exact impl_isName.mono _ _ | exact strings_Split.mono _ _ _ | exact LeO.refl _ | exact LeO.none _ | refine LeO.ite ?_ ?_ | refine LeO.bind ?_ (fun _ => ?_)
theorem impl_PathFault.calls (k : Nat) (a0 : ByteArray) (r : Int) (w : World) (h : impl_PathFault.f k a0 = some r) :
  Calls Tryd.prog 19 #[.string a0] w fun e w' => e = .returned (.int .i64 r) ∧ Below w.heap.size w w' := by
 have HB := aa (Below.refl w.heap.size w)
 have H : (if (a0.size : Int) > 24 then (impl_PathFault.j0 k a0 true) else ((strings_Count.f a0 (⟨#[47]⟩ : ByteArray)).bind fun t101 => (impl_PathFault.j0 k a0 (decide (t101 > 4))))) = some r := h
 clear h
 have HC2 := aa H
 clear H
 go_enter Tryd.func19, Tryd.ntmps19
 go_upto_region 1 with (fail)
 go_cut [13] (fun v13 wc => ∃ (kq : Nat) (x13_1 : Bool), v13 = .bool x13_1 ∧ Aside0 (impl_PathFault.j0 kq a0 x13_1 = some r) ∧ Aside0 (kq ≤ k) ∧ Aside0 (Below w.heap.size w wc))
 case first =>
  have H := HC2.out
  clear HC2
  revert H
  refine itC_ (fun c3 H => ?_) fun c3 H => ?_
  ·
   have c3b0 : decide (24 < (a0.size : Int)) = true := decide_eq_true c3
   have c3b1 : decide (24 < a0.size) = true := decide_eq_true (by omega)
   clear c3
   (first | rw [c3b0] | (simp only [i64_w, i32_w]; rw [c3b0]) | (simp only [c3b2, Bool.not_false, Bool.not_true]) | skip)
   have H' := aa H
   clear H
   go_wp2
   go_meet
   case rel => exact ⟨_, (true), zagbkp, H', ⟨zpacfg⟩, ⟨zjjbob⟩⟩
  have c3b0 : decide (24 < (a0.size : Int)) = false := decide_eq_false c3
  have c3b1 : decide (24 < a0.size) = false := decide_eq_false (by omega)
  clear c3
  (first | rw [c3b0] | (simp only [i64_w, i32_w]; rw [c3b0]) | (simp only [c3b2, Bool.not_false, Bool.not_true]) | skip)
  revert H
  refine obs_ fun t101 A4 H => ?_
  have H' := aa H
  clear H
  go_wp2_with (first | (go_at_call 36; (with_reducible refine (strings_Count.calls a0 (⟨#[47]⟩ : ByteArray) t101 _ A4.out).mono ?_); rintro e w' ⟨rfl, ⟨nd, rfl⟩⟩))
  go_meet
  case rel => exact ⟨_, (decide (t101 > 4)), zagbkp, H', ⟨zpacfg⟩, ⟨zjjbob⟩⟩
 case rest =>
  clear HC2
  try clear p2
  try clear c3
  try clear c3b0
  try clear c3b1
  try clear c3b2
  obtain ⟨kq, x13_1, rfl, HA, HJ1, HB⟩ := hcut
  cases kq with
  | zero => exact absurd HA.out (by simp [impl_PathFault.j0])
  | succ kj1 =>
   have H := HA.out
   clear HA
   simp only [impl_PathFault.j0] at H
   by_cases c5 : x13_1 = true
   ·
    subst c5
    rw [if_pos rfl] at H
    obtain rfl := Option.some.inj H
    go_wp2
    go_ret
    exact ⟨zlhpib, zjjbob⟩
   ·
    replace c5 := Bool.eq_false_iff.mpr c5
    subst c5
    rw [if_neg fT_] at H
    revert H
    refine itE_ (fun c6b0 c6b1 H => ?_) fun c6b0 c6b1 H => ?_
    ·
     obtain rfl := Option.some.inj H
     go_wp2
     go_ret
     exact ⟨zlhpib, zjjbob⟩
    revert H
    refine obs_ fun t102 A7 H => ?_
    have HC8 := aa H
    clear H
    go_upto_region 6 with (first | (refine gc_ Tryd.func37 (some 17) #[.string a0, .string (⟨#[47]⟩ : ByteArray)] ?_; (with_reducible refine (strings_Split.calls kj1 a0 (⟨#[47]⟩ : ByteArray) t102 _ A7.out).mono ?_); rintro e w9 ⟨v103, rfl, ho0, hb⟩; refine ⟨_, rfl, ?_⟩; have HO104 := aa (Kd.R_lower ho0 (below_size zjjbob)); replace HB := aa (below_step zjjbob hb); (try clear hb hk hi ho0)))
    (try simp only [Act.put, List.setIfInBounds_toArray, List.set_cons_zero, List.set_cons_succ])
    go_cut [26] (fun v26 wc => ∃ (kq : Nat) (x26_7 : Bool), v26 = .bool x26_7 ∧ Aside0 (impl_PathFault.j1 kq t102 x26_7 = some r) ∧ Aside0 (kq ≤ kj1) ∧ Aside0 (Kd.R Kd.string 9 wc w.heap.size (fun _ => True) v103 t102) ∧ Aside0 (Below w.heap.size w wc))
    case first =>
     have H := HC8.out
     clear HC8
     revert H
     refine itC_ (fun c10 H => ?_) fun c10 H => ?_
     ·
      have c10b0 := decide_eq_true c10
      have c10b1 : decide (t102.length < 2) = true := decide_eq_true (by omega)
      clear c10
      (first | rw [c10b0] | (simp only [i64_w, i32_w]; rw [c10b0]) | (simp only [c10b2, Bool.not_false, Bool.not_true]) | skip)
      have H' := aa H
      clear H
      obtain ⟨Ao11, co11, eo11⟩ := Kd.R_slice HO104.out
      subst eo11
      go_wp2
      go_meet
      case rel => exact ⟨_, (true), zagbkp, H', ⟨by have := HJ1.out; first | omega | exact Nat.le_refl _⟩, ⟨zcaken HO104.out⟩, ⟨zjjbob⟩⟩
     have c10b0 := decide_eq_false c10
     have c10b1 : decide (t102.length < 2) = false := decide_eq_false (by omega)
     clear c10
     (first | rw [c10b0] | (simp only [i64_w, i32_w]; rw [c10b0]) | (simp only [c10b2, Bool.not_false, Bool.not_true]) | skip)
     revert H
     refine itG_ fun c12 H => ?_
     have c12b0 := decide_eq_true c12
     have c12b1 : decide (0 < t102.length) = true := decide_eq_true (by omega)
     clear c12
     have H' := aa H
     clear H
     obtain ⟨Ao13, co13, eo13⟩ := Kd.R_slice HO104.out
     subst eo13
     have p105 : 0 ≤ (0 : Int) := (by omega)
     have q105 : 0 < (t102.length : Int) := of_decide_eq_true zgglam
     obtain ⟨ad105, e105, hx105_0⟩ := Kd.at_string (Kd.R_reads' HO104.out).2.2 0 p105 q105
     cases e105
     have qi105 : (0 < t102.length) = True := eq_true (by omega)
     (try rw [show ((0 : Int)).toNat = 0 from rfl] at hx105_0)
     (try rw [Addr.add_zero'] at hx105_0)
     replace p105 := eq_true p105
     replace q105 := eq_true q105
     go_wp2
     go_meet
     case rel => exact ⟨_, (((rdOf ByteArray.empty t102 0).toList != ([] : List UInt8))), zheoaa, H', ⟨by have := HJ1.out; first | omega | exact Nat.le_refl _⟩, ⟨zcaken HO104.out⟩, ⟨zjjbob⟩⟩
    case rest =>
     clear HC8
     try clear p1
     try clear q1
     try clear hx1
     try clear qi1
     try clear p2
     try clear c3
     try clear c3b0
     try clear c3b1
     try clear c3b2
     try clear c5
     try clear c6b0
     try clear c6b1
     try clear c10
     try clear c10b0
     try clear c10b1
     try clear c10b2
     try clear p10
     try clear q10
     try clear hx10
     try clear qi10
     try clear c12
     try clear c12b0
     try clear c12b1
     try clear hx105_0
     try clear p105
     try clear p2
     try clear q105
     obtain ⟨kq, x26_7, rfl, HA, HJ7, HO_3, HB⟩ := hcut
     cases kq with
     | zero => exact absurd HA.out (by simp [impl_PathFault.j1])
     | succ kj7 =>
      have H := HA.out
      clear HA
      simp only [impl_PathFault.j1] at H
      by_cases c14 : x26_7 = true
      ·
       subst c14
       rw [if_pos rfl] at H
       obtain rfl := Option.some.inj H
       go_wp2
       go_ret
       exact ⟨zlhpib, zjjbob⟩
      ·
       replace c14 := Bool.eq_false_iff.mpr c14
       subst c14
       rw [if_neg fT_] at H
       revert H
       refine itG_ fun c15 H => ?_
       have c15b0 := eq_true c15
       have c15b1 := decide_eq_true c15
       clear c15
       revert H
       refine obl_ fun y106 Ny106 H => ?_
       have H' := aa H
       clear H
       obtain ⟨Ao17, co17, eo17⟩ := Kd.R_slice HO_3.out
       subst eo17
       have q16 : (1 : Int) ≤ ((t102.length : Int) : Int) := of_decide_eq_true zgglam
       obtain ⟨i016, hi016, _, hsz16, _⟩ := info_parts info9
       have hroom16 : t102.length ≤ co17 := (Kd.R_reads' HO_3.out).2.1
       have hC16 : Kd.C Kd.string _ Ao17 t102.length t102 := (Kd.R_reads' HO_3.out).2.2
       have hcut16 := cut_from (P := Tryd.prog) 57 9 .i64 Tryd.underlying57 hi016 1 hsz16 Ao17 t102.length co17 1 (by omega) q16
       have hr16 := Kd.C_drop (m := (1 : Int).toNat) (c := co17) hC16 (by omega) hroom16
       obtain ⟨A16, hA16⟩ : ∃ A1, A1 = (if co17 = (1 : Int).toNat then Ao17 else (Ao17 : Option Addr).map (·.add ((1 : Int).toNat * 1))) := ⟨_, rfl⟩
       obtain ⟨c16, hc16⟩ : ∃ c1, c1 = co17 - (1 : Int).toNat := ⟨_, rfl⟩
       have hy16 : y106.length = t102.length - (1 : Int).toNat := (by rw [Ny106.out, List.length_drop] <;> omega)
       rw [show (t102).drop (1 : Int).toNat = y106 from Ny106.out.symm] at hr16
       replace hr16 : Kd.C Kd.string _ A16 y106.length y106 := (by rw [hA16]; exact hr16)
       rw [← hy16, ← hA16, ← hc16] at hcut16
       have HR109 := aa hr16
       have HC109 := aa (show y106.length ≤ c16 from by rw [hy16, hc16]; exact Nat.sub_le_sub_right hroom16 _)
       clear hr16 hC16 hroom16 hi016 hsz16 hc16
       have KY16 := aa hy16
       have KA16 := aa hA16
       clear hy16 hA16
       have KL16 := aa (show 1 ≤ t102.length from by omega)
       replace q16 := eq_true q16
       go_wp2
       go_loopg [30] kj7 (fun kq v30 w' => ∃ (x30_3 : Int), v30 = .int .i64 x30_3 ∧ Aside0 (impl_PathFault.l0 kq y106 (y106.length : Int) x30_3 = some r) ∧ Aside0 (kq ≤ kj7) ∧ Aside0 (Kd.C Kd.string w' A16 y106.length y106) ∧ Aside0 (Below w.heap.size w w'))
       case atStart => exact ⟨(0), zagbkp, H', ⟨Nat.le_refl _⟩, ⟨zgjkjj⟩, ⟨zjjbob⟩⟩
       case round =>
        clear H'
        try clear p1
        try clear q1
        try clear hx1
        try clear qi1
        try clear p2
        try clear c3
        try clear c3b0
        try clear c3b1
        try clear c3b2
        try clear c5
        try clear c6b0
        try clear c6b1
        try clear c10
        try clear c10b0
        try clear c10b1
        try clear c10b2
        try clear p10
        try clear q10
        try clear hx10
        try clear qi10
        try clear c12
        try clear c12b0
        try clear c12b1
        try clear c14
        try clear c15
        try clear c15b0
        try clear c15b1
        try clear c16
        try clear q16
        try clear hx105_0
        try clear p1
        try clear p10
        try clear p105
        try clear p2
        try clear q1
        try clear q10
        try clear q105
        try clear q16
        obtain ⟨x30_3, rfl, HA, HK3, HR109, HB⟩ := hrel
        cases gk with
        | zero => exact absurd HA.out (by simp [impl_PathFault.l0])
        | succ k3 =>
         have H := HA.out
         clear HA
         simp only [impl_PathFault.l0] at H
         revert H
         refine itD_ (fun c18b0 H => ?_) fun c18b0 H => ?_
         ·
          revert H
          refine itH_ fun c19b0 H => ?_
          revert H
          refine itH_ fun c20b0 H => ?_
          revert H
          refine obs_ fun t111 A21 H => ?_
          by_cases c22 : t111 = true
          ·
           subst c22
           rw [if_pos rfl] at H
           have H' := aa H
           clear H
           have p110 : 0 ≤ (x30_3 : Int) := of_decide_eq_true zgglam
           have q110 : x30_3 < (y106.length : Int) := of_decide_eq_true zgglam
           obtain ⟨ad110, e110, hx110_0⟩ := Kd.at_string HR109.out x30_3 p110 q110
           cases e110
           replace p110 := eq_true p110
           replace q110 := eq_true q110
           go_wp2_with (first | (refine gc_ Tryd.func38 (some 35) #[.string (rdOf ByteArray.empty y106 x30_3)] ?_; (with_reducible refine (impl_isName.calls k3 (rdOf ByteArray.empty y106 x30_3) true _ A21.out).mono ?_); rintro e w' ⟨rfl, ⟨nd, rfl⟩⟩; refine ⟨_, rfl, ?_⟩))
           go_roundg k3
           case measure => have := HJ1.out; have := HJ7.out; have := HK3.out; omega
           case rel => exact ⟨(wrap64 (x30_3 + 1)), zagbkp, H', ⟨by have := HJ1.out; have := HJ7.out; have := HK3.out; omega⟩, ⟨zgjkjj⟩, ⟨zjjbob⟩⟩
          replace c22 := Bool.eq_false_iff.mpr c22
          subst c22
          rw [if_neg fT_] at H
          obtain rfl := Option.some.inj H
          have p110 : 0 ≤ (x30_3 : Int) := of_decide_eq_true zgglam
          have q110 : x30_3 < (y106.length : Int) := of_decide_eq_true zgglam
          obtain ⟨ad110, e110, hx110_0⟩ := Kd.at_string HR109.out x30_3 p110 q110
          cases e110
          replace p110 := eq_true p110
          replace q110 := eq_true q110
          go_wp2_with (first | (refine gc_ Tryd.func38 (some 35) #[.string (rdOf ByteArray.empty y106 x30_3)] ?_; (with_reducible refine (impl_isName.calls k3 (rdOf ByteArray.empty y106 x30_3) false _ A21.out).mono ?_); rintro e w' ⟨rfl, ⟨nd, rfl⟩⟩; refine ⟨_, rfl, ?_⟩))
          go_ret
          exact ⟨zlhpib, zjjbob⟩
         ·
          obtain rfl := Option.some.inj H
          go_wp2
          go_ret
          exact ⟨zlhpib, zjjbob⟩
def impl_isData.f (a0 : Int) : Option (Bool) := (impl_within.f a0 0 9999).bind fun t101 => (some t101)
theorem impl_isData.calls (a0 : Int) (r : Bool) (w : World) (h : impl_isData.f a0 = some r) :
  Calls Tryd.prog 20 #[.int .i64 a0] w fun e w' => e = .returned (.bool r) ∧ Drawn0 w w' := by
 have H : ((impl_within.f a0 0 9999).bind fun t101 => (some t101)) = some r := h
 clear h
 revert H
 refine obs_ fun t101 A2 H => ?_
 obtain rfl := Option.some.inj H
 go_enter Tryd.func20, Tryd.ntmps20
 go_wp2_with (first | (refine gc_ Tryd.func18 (some 4) #[.int .i64 a0, .int .i64 0, .int .i64 9999] ?_; (with_reducible refine (impl_within.calls a0 0 9999 t101 _ A2.out).mono ?_); rintro e w' ⟨rfl, ⟨nd, rfl⟩⟩; refine ⟨_, rfl, ?_⟩))
 go_ret
 exact ⟨zagbkp, ziajdh⟩
end Go.Proofs.YtbeghfdlbokhkaaDoor.Qc
namespace Go.Proofs.YtbeghfdlbokhkaaDoor.Qc
open Go.RowKit Go.Proofs.YtbeghfdlbokhkaaDoorW.PrintWords Go.Proofs.YtbeghfdlbokhkaaDoorW.PrintLast Go.Proofs.YtbeghfdlbokhkaaDoorW.PrintMore
attribute [local go_sem] max2_int min2_int max_two min_two max_three min_three max_four min_four
set_option linter.unusedVariables false
set_option linter.unusedSimpArgs false
theorem gate_thru {P : Program} {ops : Array Oper} {Q : Exit → Act → World → Prop} {rest : List Oper} {o : Oper} {a : Act} {W : World} {t : Tmp} {xs : Array Operand} {ts : Array TypeId} (_ho : o.op = .call { callee := .value (.tmp t), args := xs, argTypes := ts }) (h : wpList P ops Q (o :: rest) a W) : wpList P ops Q (o :: rest) a W := h
theorem goesG_ {P : Program} {ops : Array Oper} {Q : Exit → Act → World → Prop} {rest : List Oper} {oi : Oper} {a : Act} {w : World} {N : Option Tmp} (hd : oi.dst = N) {f : FuncId} {fn : Func} {xs : Array Operand} {ts : Array TypeId} {t : Tmp} (hf : P.funcs[f]? = some fn) (hname : (fn.name == "runtime.NumGoroutine") = false) (hb : fn.body.isSome = true) (args : Array Value) (p : Value)
  (hop : oi.op = .call { callee := .value (.tmp t), args := xs, argTypes := ts }) (hv : a.eval (.tmp t) = .func (.func f) #[] #[p]) (hargs : xs.map a.eval ++ #[p] = args) (hw : Region.wanted oi (yielded ops a.tmps) = true)
  (h : Calls P f args w fun e w' => ∃ v, e = .returned v ∧ wpList P ops Q rest (a.put N v) w') : wpList P ops Q (oi :: rest) a w := by
 refine wpList_step fun K hK => ?_
 rw [if_pos hw]
 have he := enters_ hf hname hb args w
 have hrun : (execOp a.eval oi).run P w = .ok (.enter f args) w := by
  unfold execOp
  simp [hop, resolve, Deferred.ofValue, invoke, hv, hargs, he]
 unfold Oper.wp
 rw [hrun, Oper.upon_enter]
 refine h.mono fun e w'' hh => ?_
 obtain ⟨v, rfl, hk⟩ := hh
 subst hd
 exact hK _ _ hk
set_option maxHeartbeats 8000000
set_option maxRecDepth 100000
def impl_OpFault.j0 : Nat → Bool → Int → ByteArray → Int → Int → Bool → Bool → ByteArray → Option (Int)
 | 0, _, _, _, _, _, _, _, _ => none
 | k + 1, x14, x102000, x102001, x102002, x102003, x102004, x102005, x105000 => if x14 = true then (some 1) else ((impl_OpFault_1.f (⟨#[112]⟩ : ByteArray) x105000).bind fun t137 => (if t137 = true then (some 0) else ((impl_PathFault.f k x102001).bind fun t138 => (if t138 = 0 then ((impl_isData.f x102002).bind fun t139 => (if t139 = true then ((impl_within.f x102003 (-1) 999).bind fun t140 => (if t140 = true then (some 0) else (some 3))) else (some 3))) else (some t138)))))
def impl_OpFault.f (k : Nat) (a0_0 : Int) (a0_1 : ByteArray) (a0_2 : Int) (a0_3 : Int) (a0_4 : Bool) (a0_5 : Bool) : Option (Int) := (impl_has.f a0_0).bind fun bt102 => ((impl_within.f a0_0 1 8).bind fun t105 => (if t105 = true then ((impl_OpFault_1.f (⟨#[112]⟩ : ByteArray) bt102.2).bind fun t106 => (if t106 = true then (if a0_1.toList = ([] : List UInt8) then ((impl_OpFault_1.f (⟨#[100]⟩ : ByteArray) bt102.2).bind fun t107 => (if t107 = true then (if a0_2 = 0 then ((impl_OpFault_1.f (⟨#[118]⟩ : ByteArray) bt102.2).bind fun t108 => (if t108 = true then (if a0_3 = 0 then ((impl_OpFault_1.f (⟨#[115]⟩ : ByteArray) bt102.2).bind fun t109 => (if t109 = true then (if a0_4 = true then (impl_OpFault.j0 k true a0_0 a0_1 a0_2 a0_3 a0_4 a0_5 bt102.2) else ((impl_OpFault_1.f (⟨#[111]⟩ : ByteArray) bt102.2).bind fun t110 => (if t110 = true then (impl_OpFault.j0 k a0_5 a0_0 a0_1 a0_2 a0_3 a0_4 a0_5 bt102.2) else (impl_OpFault.j0 k false a0_0 a0_1 a0_2 a0_3 a0_4 a0_5 bt102.2)))) else ((impl_OpFault_1.f (⟨#[111]⟩ : ByteArray) bt102.2).bind fun t111 => (if t111 = true then (impl_OpFault.j0 k a0_5 a0_0 a0_1 a0_2 a0_3 a0_4 a0_5 bt102.2) else (impl_OpFault.j0 k false a0_0 a0_1 a0_2 a0_3 a0_4 a0_5 bt102.2))))) else (impl_OpFault.j0 k true a0_0 a0_1 a0_2 a0_3 a0_4 a0_5 bt102.2)) else ((impl_OpFault_1.f (⟨#[115]⟩ : ByteArray) bt102.2).bind fun t112 => (if t112 = true then (if a0_4 = true then (impl_OpFault.j0 k true a0_0 a0_1 a0_2 a0_3 a0_4 a0_5 bt102.2) else ((impl_OpFault_1.f (⟨#[111]⟩ : ByteArray) bt102.2).bind fun t113 => (if t113 = true then (impl_OpFault.j0 k a0_5 a0_0 a0_1 a0_2 a0_3 a0_4 a0_5 bt102.2) else (impl_OpFault.j0 k false a0_0 a0_1 a0_2 a0_3 a0_4 a0_5 bt102.2)))) else ((impl_OpFault_1.f (⟨#[111]⟩ : ByteArray) bt102.2).bind fun t114 => (if t114 = true then (impl_OpFault.j0 k a0_5 a0_0 a0_1 a0_2 a0_3 a0_4 a0_5 bt102.2) else (impl_OpFault.j0 k false a0_0 a0_1 a0_2 a0_3 a0_4 a0_5 bt102.2))))))) else (impl_OpFault.j0 k true a0_0 a0_1 a0_2 a0_3 a0_4 a0_5 bt102.2)) else ((impl_OpFault_1.f (⟨#[118]⟩ : ByteArray) bt102.2).bind fun t115 => (if t115 = true then (if a0_3 = 0 then ((impl_OpFault_1.f (⟨#[115]⟩ : ByteArray) bt102.2).bind fun t116 => (if t116 = true then (if a0_4 = true then (impl_OpFault.j0 k true a0_0 a0_1 a0_2 a0_3 a0_4 a0_5 bt102.2) else ((impl_OpFault_1.f (⟨#[111]⟩ : ByteArray) bt102.2).bind fun t117 => (if t117 = true then (impl_OpFault.j0 k a0_5 a0_0 a0_1 a0_2 a0_3 a0_4 a0_5 bt102.2) else (impl_OpFault.j0 k false a0_0 a0_1 a0_2 a0_3 a0_4 a0_5 bt102.2)))) else ((impl_OpFault_1.f (⟨#[111]⟩ : ByteArray) bt102.2).bind fun t118 => (if t118 = true then (impl_OpFault.j0 k a0_5 a0_0 a0_1 a0_2 a0_3 a0_4 a0_5 bt102.2) else (impl_OpFault.j0 k false a0_0 a0_1 a0_2 a0_3 a0_4 a0_5 bt102.2))))) else (impl_OpFault.j0 k true a0_0 a0_1 a0_2 a0_3 a0_4 a0_5 bt102.2)) else ((impl_OpFault_1.f (⟨#[115]⟩ : ByteArray) bt102.2).bind fun t119 => (if t119 = true then (if a0_4 = true then (impl_OpFault.j0 k true a0_0 a0_1 a0_2 a0_3 a0_4 a0_5 bt102.2) else ((impl_OpFault_1.f (⟨#[111]⟩ : ByteArray) bt102.2).bind fun t120 => (if t120 = true then (impl_OpFault.j0 k a0_5 a0_0 a0_1 a0_2 a0_3 a0_4 a0_5 bt102.2) else (impl_OpFault.j0 k false a0_0 a0_1 a0_2 a0_3 a0_4 a0_5 bt102.2)))) else ((impl_OpFault_1.f (⟨#[111]⟩ : ByteArray) bt102.2).bind fun t121 => (if t121 = true then (impl_OpFault.j0 k a0_5 a0_0 a0_1 a0_2 a0_3 a0_4 a0_5 bt102.2) else (impl_OpFault.j0 k false a0_0 a0_1 a0_2 a0_3 a0_4 a0_5 bt102.2))))))))) else (impl_OpFault.j0 k true a0_0 a0_1 a0_2 a0_3 a0_4 a0_5 bt102.2)) else ((impl_OpFault_1.f (⟨#[100]⟩ : ByteArray) bt102.2).bind fun t122 => (if t122 = true then (if a0_2 = 0 then ((impl_OpFault_1.f (⟨#[118]⟩ : ByteArray) bt102.2).bind fun t123 => (if t123 = true then (if a0_3 = 0 then ((impl_OpFault_1.f (⟨#[115]⟩ : ByteArray) bt102.2).bind fun t124 => (if t124 = true then (if a0_4 = true then (impl_OpFault.j0 k true a0_0 a0_1 a0_2 a0_3 a0_4 a0_5 bt102.2) else ((impl_OpFault_1.f (⟨#[111]⟩ : ByteArray) bt102.2).bind fun t125 => (if t125 = true then (impl_OpFault.j0 k a0_5 a0_0 a0_1 a0_2 a0_3 a0_4 a0_5 bt102.2) else (impl_OpFault.j0 k false a0_0 a0_1 a0_2 a0_3 a0_4 a0_5 bt102.2)))) else ((impl_OpFault_1.f (⟨#[111]⟩ : ByteArray) bt102.2).bind fun t126 => (if t126 = true then (impl_OpFault.j0 k a0_5 a0_0 a0_1 a0_2 a0_3 a0_4 a0_5 bt102.2) else (impl_OpFault.j0 k false a0_0 a0_1 a0_2 a0_3 a0_4 a0_5 bt102.2))))) else (impl_OpFault.j0 k true a0_0 a0_1 a0_2 a0_3 a0_4 a0_5 bt102.2)) else ((impl_OpFault_1.f (⟨#[115]⟩ : ByteArray) bt102.2).bind fun t127 => (if t127 = true then (if a0_4 = true then (impl_OpFault.j0 k true a0_0 a0_1 a0_2 a0_3 a0_4 a0_5 bt102.2) else ((impl_OpFault_1.f (⟨#[111]⟩ : ByteArray) bt102.2).bind fun t128 => (if t128 = true then (impl_OpFault.j0 k a0_5 a0_0 a0_1 a0_2 a0_3 a0_4 a0_5 bt102.2) else (impl_OpFault.j0 k false a0_0 a0_1 a0_2 a0_3 a0_4 a0_5 bt102.2)))) else ((impl_OpFault_1.f (⟨#[111]⟩ : ByteArray) bt102.2).bind fun t129 => (if t129 = true then (impl_OpFault.j0 k a0_5 a0_0 a0_1 a0_2 a0_3 a0_4 a0_5 bt102.2) else (impl_OpFault.j0 k false a0_0 a0_1 a0_2 a0_3 a0_4 a0_5 bt102.2))))))) else (impl_OpFault.j0 k true a0_0 a0_1 a0_2 a0_3 a0_4 a0_5 bt102.2)) else ((impl_OpFault_1.f (⟨#[118]⟩ : ByteArray) bt102.2).bind fun t130 => (if t130 = true then (if a0_3 = 0 then ((impl_OpFault_1.f (⟨#[115]⟩ : ByteArray) bt102.2).bind fun t131 => (if t131 = true then (if a0_4 = true then (impl_OpFault.j0 k true a0_0 a0_1 a0_2 a0_3 a0_4 a0_5 bt102.2) else ((impl_OpFault_1.f (⟨#[111]⟩ : ByteArray) bt102.2).bind fun t132 => (if t132 = true then (impl_OpFault.j0 k a0_5 a0_0 a0_1 a0_2 a0_3 a0_4 a0_5 bt102.2) else (impl_OpFault.j0 k false a0_0 a0_1 a0_2 a0_3 a0_4 a0_5 bt102.2)))) else ((impl_OpFault_1.f (⟨#[111]⟩ : ByteArray) bt102.2).bind fun t133 => (if t133 = true then (impl_OpFault.j0 k a0_5 a0_0 a0_1 a0_2 a0_3 a0_4 a0_5 bt102.2) else (impl_OpFault.j0 k false a0_0 a0_1 a0_2 a0_3 a0_4 a0_5 bt102.2))))) else (impl_OpFault.j0 k true a0_0 a0_1 a0_2 a0_3 a0_4 a0_5 bt102.2)) else ((impl_OpFault_1.f (⟨#[115]⟩ : ByteArray) bt102.2).bind fun t134 => (if t134 = true then (if a0_4 = true then (impl_OpFault.j0 k true a0_0 a0_1 a0_2 a0_3 a0_4 a0_5 bt102.2) else ((impl_OpFault_1.f (⟨#[111]⟩ : ByteArray) bt102.2).bind fun t135 => (if t135 = true then (impl_OpFault.j0 k a0_5 a0_0 a0_1 a0_2 a0_3 a0_4 a0_5 bt102.2) else (impl_OpFault.j0 k false a0_0 a0_1 a0_2 a0_3 a0_4 a0_5 bt102.2)))) else ((impl_OpFault_1.f (⟨#[111]⟩ : ByteArray) bt102.2).bind fun t136 => (if t136 = true then (impl_OpFault.j0 k a0_5 a0_0 a0_1 a0_2 a0_3 a0_4 a0_5 bt102.2) else (impl_OpFault.j0 k false a0_0 a0_1 a0_2 a0_3 a0_4 a0_5 bt102.2))))))))))) else (impl_OpFault.j0 k true a0_0 a0_1 a0_2 a0_3 a0_4 a0_5 bt102.2)))
theorem impl_OpFault.mono_l : ∀ k, (∀ y0 y1 y2 y3 y4 y5 y6 y7, LeO (impl_OpFault.j0 k y0 y1 y2 y3 y4 y5 y6 y7) (impl_OpFault.j0 (k + 1) y0 y1 y2 y3 y4 y5 y6 y7))
 | 0 => fun _ _ _ _ _ _ _ _ r h => by simp [impl_OpFault.j0] at h
 | k + 1 => by
  have ih0 := impl_OpFault.mono_l k
  ·
   intro y0 y1 y2 y3 y4 y5 y6 y7
   unfold impl_OpFault.j0
   with_reducible repeat' first | exact ih0 _ _ _ _ _ _ _ _ | exact impl_PathFault.mono _ _ | exact LeO.refl _ | exact LeO.none _ | refine LeO.ite ?_ ?_ | refine LeO.bind ?_ (fun _ => ?_)
theorem impl_OpFault.mono : ∀ a0 a1 a2 a3 a4 a5 k, LeO (impl_OpFault.f k a0 a1 a2 a3 a4 a5) (impl_OpFault.f (k + 1) a0 a1 a2 a3 a4 a5) := by
 intro a0 a1 a2 a3 a4 a5 k
 have ih0 := impl_OpFault.mono_l k
 unfold impl_OpFault.f
 with_reducible repeat' first | exact ih0 _ _ _ _ _ _ _ _ | exact impl_PathFault.mono _ _ | exact LeO.refl _ | exact LeO.none _ | refine LeO.ite ?_ ?_ | refine LeO.bind ?_ (fun _ => ?_)
theorem impl_OpFault.calls (k : Nat) (a0_0 : Int) (a0_1 : ByteArray) (a0_2 : Int) (a0_3 : Int) (a0_4 : Bool) (a0_5 : Bool) (r : Int) (w : World) (h : impl_OpFault.f k a0_0 a0_1 a0_2 a0_3 a0_4 a0_5 = some r) :
  Calls Tryd.prog 8 #[.agg #[.int .i64 a0_0, .string a0_1, .int .i64 a0_2, .int .i64 a0_3, .bool a0_4, .bool a0_5]] w fun e w' => e = .returned (.int .i64 r) ∧ Below w.heap.size w w' := by
 have hu26 := Tryd.underlying26
 have HB := aa (Below.refl w.heap.size w)
 have H : ((impl_has.f a0_0).bind fun bt102 => ((impl_within.f a0_0 1 8).bind fun t105 => (if t105 = true then ((impl_OpFault_1.f (⟨#[112]⟩ : ByteArray) bt102.2).bind fun t106 => (if t106 = true then (if a0_1.toList = ([] : List UInt8) then ((impl_OpFault_1.f (⟨#[100]⟩ : ByteArray) bt102.2).bind fun t107 => (if t107 = true then (if a0_2 = 0 then ((impl_OpFault_1.f (⟨#[118]⟩ : ByteArray) bt102.2).bind fun t108 => (if t108 = true then (if a0_3 = 0 then ((impl_OpFault_1.f (⟨#[115]⟩ : ByteArray) bt102.2).bind fun t109 => (if t109 = true then (if a0_4 = true then (impl_OpFault.j0 k true a0_0 a0_1 a0_2 a0_3 a0_4 a0_5 bt102.2) else ((impl_OpFault_1.f (⟨#[111]⟩ : ByteArray) bt102.2).bind fun t110 => (if t110 = true then (impl_OpFault.j0 k a0_5 a0_0 a0_1 a0_2 a0_3 a0_4 a0_5 bt102.2) else (impl_OpFault.j0 k false a0_0 a0_1 a0_2 a0_3 a0_4 a0_5 bt102.2)))) else ((impl_OpFault_1.f (⟨#[111]⟩ : ByteArray) bt102.2).bind fun t111 => (if t111 = true then (impl_OpFault.j0 k a0_5 a0_0 a0_1 a0_2 a0_3 a0_4 a0_5 bt102.2) else (impl_OpFault.j0 k false a0_0 a0_1 a0_2 a0_3 a0_4 a0_5 bt102.2))))) else (impl_OpFault.j0 k true a0_0 a0_1 a0_2 a0_3 a0_4 a0_5 bt102.2)) else ((impl_OpFault_1.f (⟨#[115]⟩ : ByteArray) bt102.2).bind fun t112 => (if t112 = true then (if a0_4 = true then (impl_OpFault.j0 k true a0_0 a0_1 a0_2 a0_3 a0_4 a0_5 bt102.2) else ((impl_OpFault_1.f (⟨#[111]⟩ : ByteArray) bt102.2).bind fun t113 => (if t113 = true then (impl_OpFault.j0 k a0_5 a0_0 a0_1 a0_2 a0_3 a0_4 a0_5 bt102.2) else (impl_OpFault.j0 k false a0_0 a0_1 a0_2 a0_3 a0_4 a0_5 bt102.2)))) else ((impl_OpFault_1.f (⟨#[111]⟩ : ByteArray) bt102.2).bind fun t114 => (if t114 = true then (impl_OpFault.j0 k a0_5 a0_0 a0_1 a0_2 a0_3 a0_4 a0_5 bt102.2) else (impl_OpFault.j0 k false a0_0 a0_1 a0_2 a0_3 a0_4 a0_5 bt102.2))))))) else (impl_OpFault.j0 k true a0_0 a0_1 a0_2 a0_3 a0_4 a0_5 bt102.2)) else ((impl_OpFault_1.f (⟨#[118]⟩ : ByteArray) bt102.2).bind fun t115 => (if t115 = true then (if a0_3 = 0 then ((impl_OpFault_1.f (⟨#[115]⟩ : ByteArray) bt102.2).bind fun t116 => (if t116 = true then (if a0_4 = true then (impl_OpFault.j0 k true a0_0 a0_1 a0_2 a0_3 a0_4 a0_5 bt102.2) else ((impl_OpFault_1.f (⟨#[111]⟩ : ByteArray) bt102.2).bind fun t117 => (if t117 = true then (impl_OpFault.j0 k a0_5 a0_0 a0_1 a0_2 a0_3 a0_4 a0_5 bt102.2) else (impl_OpFault.j0 k false a0_0 a0_1 a0_2 a0_3 a0_4 a0_5 bt102.2)))) else ((impl_OpFault_1.f (⟨#[111]⟩ : ByteArray) bt102.2).bind fun t118 => (if t118 = true then (impl_OpFault.j0 k a0_5 a0_0 a0_1 a0_2 a0_3 a0_4 a0_5 bt102.2) else (impl_OpFault.j0 k false a0_0 a0_1 a0_2 a0_3 a0_4 a0_5 bt102.2))))) else (impl_OpFault.j0 k true a0_0 a0_1 a0_2 a0_3 a0_4 a0_5 bt102.2)) else ((impl_OpFault_1.f (⟨#[115]⟩ : ByteArray) bt102.2).bind fun t119 => (if t119 = true then (if a0_4 = true then (impl_OpFault.j0 k true a0_0 a0_1 a0_2 a0_3 a0_4 a0_5 bt102.2) else ((impl_OpFault_1.f (⟨#[111]⟩ : ByteArray) bt102.2).bind fun t120 => (if t120 = true then (impl_OpFault.j0 k a0_5 a0_0 a0_1 a0_2 a0_3 a0_4 a0_5 bt102.2) else (impl_OpFault.j0 k false a0_0 a0_1 a0_2 a0_3 a0_4 a0_5 bt102.2)))) else ((impl_OpFault_1.f (⟨#[111]⟩ : ByteArray) bt102.2).bind fun t121 => (if t121 = true then (impl_OpFault.j0 k a0_5 a0_0 a0_1 a0_2 a0_3 a0_4 a0_5 bt102.2) else (impl_OpFault.j0 k false a0_0 a0_1 a0_2 a0_3 a0_4 a0_5 bt102.2))))))))) else (impl_OpFault.j0 k true a0_0 a0_1 a0_2 a0_3 a0_4 a0_5 bt102.2)) else ((impl_OpFault_1.f (⟨#[100]⟩ : ByteArray) bt102.2).bind fun t122 => (if t122 = true then (if a0_2 = 0 then ((impl_OpFault_1.f (⟨#[118]⟩ : ByteArray) bt102.2).bind fun t123 => (if t123 = true then (if a0_3 = 0 then ((impl_OpFault_1.f (⟨#[115]⟩ : ByteArray) bt102.2).bind fun t124 => (if t124 = true then (if a0_4 = true then (impl_OpFault.j0 k true a0_0 a0_1 a0_2 a0_3 a0_4 a0_5 bt102.2) else ((impl_OpFault_1.f (⟨#[111]⟩ : ByteArray) bt102.2).bind fun t125 => (if t125 = true then (impl_OpFault.j0 k a0_5 a0_0 a0_1 a0_2 a0_3 a0_4 a0_5 bt102.2) else (impl_OpFault.j0 k false a0_0 a0_1 a0_2 a0_3 a0_4 a0_5 bt102.2)))) else ((impl_OpFault_1.f (⟨#[111]⟩ : ByteArray) bt102.2).bind fun t126 => (if t126 = true then (impl_OpFault.j0 k a0_5 a0_0 a0_1 a0_2 a0_3 a0_4 a0_5 bt102.2) else (impl_OpFault.j0 k false a0_0 a0_1 a0_2 a0_3 a0_4 a0_5 bt102.2))))) else (impl_OpFault.j0 k true a0_0 a0_1 a0_2 a0_3 a0_4 a0_5 bt102.2)) else ((impl_OpFault_1.f (⟨#[115]⟩ : ByteArray) bt102.2).bind fun t127 => (if t127 = true then (if a0_4 = true then (impl_OpFault.j0 k true a0_0 a0_1 a0_2 a0_3 a0_4 a0_5 bt102.2) else ((impl_OpFault_1.f (⟨#[111]⟩ : ByteArray) bt102.2).bind fun t128 => (if t128 = true then (impl_OpFault.j0 k a0_5 a0_0 a0_1 a0_2 a0_3 a0_4 a0_5 bt102.2) else (impl_OpFault.j0 k false a0_0 a0_1 a0_2 a0_3 a0_4 a0_5 bt102.2)))) else ((impl_OpFault_1.f (⟨#[111]⟩ : ByteArray) bt102.2).bind fun t129 => (if t129 = true then (impl_OpFault.j0 k a0_5 a0_0 a0_1 a0_2 a0_3 a0_4 a0_5 bt102.2) else (impl_OpFault.j0 k false a0_0 a0_1 a0_2 a0_3 a0_4 a0_5 bt102.2))))))) else (impl_OpFault.j0 k true a0_0 a0_1 a0_2 a0_3 a0_4 a0_5 bt102.2)) else ((impl_OpFault_1.f (⟨#[118]⟩ : ByteArray) bt102.2).bind fun t130 => (if t130 = true then (if a0_3 = 0 then ((impl_OpFault_1.f (⟨#[115]⟩ : ByteArray) bt102.2).bind fun t131 => (if t131 = true then (if a0_4 = true then (impl_OpFault.j0 k true a0_0 a0_1 a0_2 a0_3 a0_4 a0_5 bt102.2) else ((impl_OpFault_1.f (⟨#[111]⟩ : ByteArray) bt102.2).bind fun t132 => (if t132 = true then (impl_OpFault.j0 k a0_5 a0_0 a0_1 a0_2 a0_3 a0_4 a0_5 bt102.2) else (impl_OpFault.j0 k false a0_0 a0_1 a0_2 a0_3 a0_4 a0_5 bt102.2)))) else ((impl_OpFault_1.f (⟨#[111]⟩ : ByteArray) bt102.2).bind fun t133 => (if t133 = true then (impl_OpFault.j0 k a0_5 a0_0 a0_1 a0_2 a0_3 a0_4 a0_5 bt102.2) else (impl_OpFault.j0 k false a0_0 a0_1 a0_2 a0_3 a0_4 a0_5 bt102.2))))) else (impl_OpFault.j0 k true a0_0 a0_1 a0_2 a0_3 a0_4 a0_5 bt102.2)) else ((impl_OpFault_1.f (⟨#[115]⟩ : ByteArray) bt102.2).bind fun t134 => (if t134 = true then (if a0_4 = true then (impl_OpFault.j0 k true a0_0 a0_1 a0_2 a0_3 a0_4 a0_5 bt102.2) else ((impl_OpFault_1.f (⟨#[111]⟩ : ByteArray) bt102.2).bind fun t135 => (if t135 = true then (impl_OpFault.j0 k a0_5 a0_0 a0_1 a0_2 a0_3 a0_4 a0_5 bt102.2) else (impl_OpFault.j0 k false a0_0 a0_1 a0_2 a0_3 a0_4 a0_5 bt102.2)))) else ((impl_OpFault_1.f (⟨#[111]⟩ : ByteArray) bt102.2).bind fun t136 => (if t136 = true then (impl_OpFault.j0 k a0_5 a0_0 a0_1 a0_2 a0_3 a0_4 a0_5 bt102.2) else (impl_OpFault.j0 k false a0_0 a0_1 a0_2 a0_3 a0_4 a0_5 bt102.2))))))))))) else (impl_OpFault.j0 k true a0_0 a0_1 a0_2 a0_3 a0_4 a0_5 bt102.2)))) = some r := h
 clear h
 revert H
 refine ob2_ fun t102 t103 A2 H => ?_
 (try dsimp only at H)
 have HC3 := aa H
 clear H
 go_enter Tryd.func8, Tryd.ntmps8
 go_upto_region 3 with (first | (refine be_ 1 #[.int .i64 a0_0, .string a0_1, .int .i64 a0_2, .int .i64 a0_3, .bool a0_4, .bool a0_5] 26 ?_; intro gb101 hg w4 hbox hb; have n0_ := aa (below_step zjjbob hb); have n1_ := aa (hbox); have n2_ := aa ((zkpfjp : w.heap.size ≤ gb101)); have n3_ := aa ((zkpfjp : w.heap.size ≤ gb101)); clear HB; have HB := n0_; have BK101 := n1_; have GW101 := n2_; have GE101 := n3_; clear n0_ n1_ n2_ n3_; clear hb hbox hg; obtain ⟨hcz5_0, hcz5_1, hcz5_2, hcz5_3, hcz5_4, hcz5_5, hfz5_0, hfz5_1, hfz5_2, hfz5_3, hfz5_4, hfz5_5⟩ := blk6_ BK101.out) | (refine gc_ Tryd.func15 (some 10) #[.int .i64 a0_0] ?_; (with_reducible refine (impl_has.calls a0_0 t102 t103 _ A2.out).mono ?_); rintro e w' ⟨rfl, ⟨nd, rfl⟩⟩; refine ⟨_, rfl, ?_⟩; (try (rw [drewN_self w4]; generalize hq_ : World.drewN w4 _ = w4; have n0_ : Aside0 (w4.heap[gb101]? = some (.cells #[.int .i64 a0_0, .string a0_1, .int .i64 a0_2, .int .i64 a0_3, .bool a0_4, .bool a0_5] 26 (0, 0))) := ⟨by rw [← hq_]; exact (zkjhpm BK101.out)⟩; have n1_ : Aside0 (Below w.heap.size w w4) := ⟨by rw [← hq_]; exact zkmbdh⟩; clear BK101 HB hq_; have BK101 := n0_; have HB := n1_; clear n0_ n1_))) | (refine be_ 4 #[.string (⟨#[]⟩ : ByteArray)] 9 ?_; intro gb104 hg w6 hbox hb; have n0_ := aa (bb_ BK101.out hb); have n1_ := aa (below_step zkmbdh hb); have n2_ := aa (hbox); have n3_ := aa ((zmjkhl : w.heap.size ≤ gb104)); have n4_ := aa ((zmjkhl : w.heap.size ≤ gb104)); have n5_ := aa ((zgleoa : gb101 ≠ gb104)); have n6_ := aa ((zjjnpi : gb104 ≠ gb101)); clear BK101; clear HB; have BK101 := n0_; have HB := n1_; have BK104 := n2_; have GW104 := n3_; have GE104 := n4_; have NB101_104 := n5_; have NB104_101 := n6_; clear n0_ n1_ n2_ n3_ n4_ n5_ n6_; clear hb hbox hg; have hnb7 := NB104_101.out; have hnc7 := NB101_104.out; have hcz8_0 : w6.cell? ⟨gb104, 0, none⟩ = some (.string (⟨#[]⟩ : ByteArray)) := (blk_cell BK104.out 0).trans rfl; have hfz8_0 := blk_frozen BK104.out 0))
 (try simp only [Act.put, List.setIfInBounds_toArray, List.set_cons_zero, List.set_cons_succ])
 go_cut [14] (fun v14 wc => ∃ (kq : Nat) (x14_2 : Bool), v14 = .bool x14_2 ∧ Aside0 (impl_OpFault.j0 kq x14_2 a0_0 a0_1 a0_2 a0_3 a0_4 a0_5 t103 = some r) ∧ Aside0 (kq ≤ k) ∧ Aside0 (wc.heap[gb101]? = some (.cells #[.int .i64 a0_0, .string a0_1, .int .i64 a0_2, .int .i64 a0_3, .bool a0_4, .bool a0_5] 26 (0, 0))) ∧ Aside0 (wc.heap[gb104]? = some (.cells #[.string t103] 9 (0, 0))) ∧ Aside0 (Below w.heap.size w wc))
 case first =>
  have H := HC3.out
  clear HC3
  revert H
  refine obs_ fun t105 A9 H => ?_
  by_cases c10 : t105 = true
  ·
   subst c10
   rw [if_pos rfl] at H
   revert H
   refine obs_ fun t106 A11 H => ?_
   by_cases c12 : t106 = true
   ·
    subst c12
    rw [if_pos rfl] at H
    revert H
    refine itE_ (fun c13b0 c13b1 H => ?_) fun c13b0 c13b1 H => ?_
    ·
     (first | rw [c13b0] | (simp only [i64_w, i32_w]; rw [c13b0]) | (simp only [c13b2, Bool.not_false, Bool.not_true]) | skip)
     revert H
     refine obs_ fun t107 A14 H => ?_
     by_cases c15 : t107 = true
     ·
      subst c15
      rw [if_pos rfl] at H
      revert H
      refine itE_ (fun c16b0 c16b1 H => ?_) fun c16b0 c16b1 H => ?_
      ·
       revert H
       refine obs_ fun t108 A17 H => ?_
       by_cases c18 : t108 = true
       ·
        subst c18
        rw [if_pos rfl] at H
        revert H
        refine itE_ (fun c19b0 c19b1 H => ?_) fun c19b0 c19b1 H => ?_
        ·
         revert H
         refine obs_ fun t109 A20 H => ?_
         by_cases c21 : t109 = true
         ·
          subst c21
          rw [if_pos rfl] at H
          by_cases c22 : a0_4 = true
          ·
           subst c22
           rw [if_pos rfl] at H
           have H' := aa H
           clear H
           have hnb23 := NB101_104.out
           have hnc23 := NB104_101.out
           obtain ⟨hcz24_0, hcz24_1, hcz24_2, hcz24_3, hcz24_4, hcz24_5, hfz24_0, hfz24_1, hfz24_2, hfz24_3, hfz24_4, hfz24_5⟩ := blk6_ BK101.out
           go_wp2_with (first | (refine gc_ Tryd.func18 (some 17) #[.int .i64 a0_0, .int .i64 1, .int .i64 8] ?_; (with_reducible refine (impl_within.calls a0_0 1 8 true _ A9.out).mono ?_); rintro e w' ⟨rfl, ⟨nd, rfl⟩⟩; refine ⟨_, rfl, ?_⟩; have hcz25_0 : w6.cell? ⟨gb104, 0, none⟩ = some (.string (⟨#[]⟩ : ByteArray)) := (blk_cell BK104.out 0).trans rfl; have hfz25_0 := blk_frozen BK104.out 0) | ((with_reducible refine gate_thru rfl ?_); refine goesG_ rfl Tryd.func16 (by kernel_rfl) rfl #[.string (⟨#[112]⟩ : ByteArray), .pointer (some ⟨gb104, 0, none⟩)] (.pointer (some ⟨gb104, 0, none⟩)) rfl rfl zabhoi (by rfl) ?_; (with_reducible refine (impl_OpFault_1.calls (⟨#[112]⟩ : ByteArray) t103 true _ A11.out gb104 ?sidex).mono ?_); (case sidex => exact zpjhli); rintro e w' ⟨rfl, ⟨nd, rfl⟩⟩) | ((with_reducible refine gate_thru rfl ?_); refine goesG_ rfl Tryd.func16 (by kernel_rfl) rfl #[.string (⟨#[100]⟩ : ByteArray), .pointer (some ⟨gb104, 0, none⟩)] (.pointer (some ⟨gb104, 0, none⟩)) rfl rfl zabhoi (by rfl) ?_; (with_reducible refine (impl_OpFault_1.calls (⟨#[100]⟩ : ByteArray) t103 true _ A14.out gb104 ?sidex).mono ?_); (case sidex => exact zpjhli); rintro e w' ⟨rfl, ⟨nd, rfl⟩⟩) | ((with_reducible refine gate_thru rfl ?_); refine goesG_ rfl Tryd.func16 (by kernel_rfl) rfl #[.string (⟨#[118]⟩ : ByteArray), .pointer (some ⟨gb104, 0, none⟩)] (.pointer (some ⟨gb104, 0, none⟩)) rfl rfl zabhoi (by rfl) ?_; (with_reducible refine (impl_OpFault_1.calls (⟨#[118]⟩ : ByteArray) t103 true _ A17.out gb104 ?sidex).mono ?_); (case sidex => exact zpjhli); rintro e w' ⟨rfl, ⟨nd, rfl⟩⟩) | ((with_reducible refine gate_thru rfl ?_); refine goesG_ rfl Tryd.func16 (by kernel_rfl) rfl #[.string (⟨#[115]⟩ : ByteArray), .pointer (some ⟨gb104, 0, none⟩)] (.pointer (some ⟨gb104, 0, none⟩)) rfl rfl zabhoi (by rfl) ?_; (with_reducible refine (impl_OpFault_1.calls (⟨#[115]⟩ : ByteArray) t103 true _ A20.out gb104 ?sidex).mono ?_); (case sidex => exact zpjhli); rintro e w' ⟨rfl, ⟨nd, rfl⟩⟩))
           go_meet
           case rel => exact ⟨_, (true), zagbkp, H', ⟨zpacfg⟩, ⟨zplhch⟩, ⟨zcphad⟩, ⟨znjalk⟩⟩
          replace c22 := Bool.eq_false_iff.mpr c22
          subst c22
          rw [if_neg fT_] at H
          revert H
          refine obs_ fun t110 A26 H => ?_
          by_cases c27 : t110 = true
          ·
           subst c27
           rw [if_pos rfl] at H
           have H' := aa H
           clear H
           have hnb28 := NB101_104.out
           have hnc28 := NB104_101.out
           obtain ⟨hcz29_0, hcz29_1, hcz29_2, hcz29_3, hcz29_4, hcz29_5, hfz29_0, hfz29_1, hfz29_2, hfz29_3, hfz29_4, hfz29_5⟩ := blk6_ BK101.out
           go_wp2_with (first | (refine gc_ Tryd.func18 (some 17) #[.int .i64 a0_0, .int .i64 1, .int .i64 8] ?_; (with_reducible refine (impl_within.calls a0_0 1 8 true _ A9.out).mono ?_); rintro e w' ⟨rfl, ⟨nd, rfl⟩⟩; refine ⟨_, rfl, ?_⟩; have hcz30_0 : w6.cell? ⟨gb104, 0, none⟩ = some (.string (⟨#[]⟩ : ByteArray)) := (blk_cell BK104.out 0).trans rfl; have hfz30_0 := blk_frozen BK104.out 0) | ((with_reducible refine gate_thru rfl ?_); refine goesG_ rfl Tryd.func16 (by kernel_rfl) rfl #[.string (⟨#[112]⟩ : ByteArray), .pointer (some ⟨gb104, 0, none⟩)] (.pointer (some ⟨gb104, 0, none⟩)) rfl rfl zabhoi (by rfl) ?_; (with_reducible refine (impl_OpFault_1.calls (⟨#[112]⟩ : ByteArray) t103 true _ A11.out gb104 ?sidex).mono ?_); (case sidex => exact zpjhli); rintro e w' ⟨rfl, ⟨nd, rfl⟩⟩) | ((with_reducible refine gate_thru rfl ?_); refine goesG_ rfl Tryd.func16 (by kernel_rfl) rfl #[.string (⟨#[100]⟩ : ByteArray), .pointer (some ⟨gb104, 0, none⟩)] (.pointer (some ⟨gb104, 0, none⟩)) rfl rfl zabhoi (by rfl) ?_; (with_reducible refine (impl_OpFault_1.calls (⟨#[100]⟩ : ByteArray) t103 true _ A14.out gb104 ?sidex).mono ?_); (case sidex => exact zpjhli); rintro e w' ⟨rfl, ⟨nd, rfl⟩⟩) | ((with_reducible refine gate_thru rfl ?_); refine goesG_ rfl Tryd.func16 (by kernel_rfl) rfl #[.string (⟨#[118]⟩ : ByteArray), .pointer (some ⟨gb104, 0, none⟩)] (.pointer (some ⟨gb104, 0, none⟩)) rfl rfl zabhoi (by rfl) ?_; (with_reducible refine (impl_OpFault_1.calls (⟨#[118]⟩ : ByteArray) t103 true _ A17.out gb104 ?sidex).mono ?_); (case sidex => exact zpjhli); rintro e w' ⟨rfl, ⟨nd, rfl⟩⟩) | ((with_reducible refine gate_thru rfl ?_); refine goesG_ rfl Tryd.func16 (by kernel_rfl) rfl #[.string (⟨#[115]⟩ : ByteArray), .pointer (some ⟨gb104, 0, none⟩)] (.pointer (some ⟨gb104, 0, none⟩)) rfl rfl zabhoi (by rfl) ?_; (with_reducible refine (impl_OpFault_1.calls (⟨#[115]⟩ : ByteArray) t103 true _ A20.out gb104 ?sidex).mono ?_); (case sidex => exact zpjhli); rintro e w' ⟨rfl, ⟨nd, rfl⟩⟩) | ((with_reducible refine gate_thru rfl ?_); refine goesG_ rfl Tryd.func16 (by kernel_rfl) rfl #[.string (⟨#[111]⟩ : ByteArray), .pointer (some ⟨gb104, 0, none⟩)] (.pointer (some ⟨gb104, 0, none⟩)) rfl rfl zabhoi (by rfl) ?_; (with_reducible refine (impl_OpFault_1.calls (⟨#[111]⟩ : ByteArray) t103 true _ A26.out gb104 ?sidex).mono ?_); (case sidex => exact zpjhli); rintro e w' ⟨rfl, ⟨nd, rfl⟩⟩))
           go_meet
           case rel => exact ⟨_, (a0_5), zagbkp, H', ⟨zpacfg⟩, ⟨zplhch⟩, ⟨zcphad⟩, ⟨znjalk⟩⟩
          replace c27 := Bool.eq_false_iff.mpr c27
          subst c27
          rw [if_neg fT_] at H
          have H' := aa H
          clear H
          have hnb31 := NB101_104.out
          have hnc31 := NB104_101.out
          obtain ⟨hcz32_0, hcz32_1, hcz32_2, hcz32_3, hcz32_4, hcz32_5, hfz32_0, hfz32_1, hfz32_2, hfz32_3, hfz32_4, hfz32_5⟩ := blk6_ BK101.out
          go_wp2_with (first | (refine gc_ Tryd.func18 (some 17) #[.int .i64 a0_0, .int .i64 1, .int .i64 8] ?_; (with_reducible refine (impl_within.calls a0_0 1 8 true _ A9.out).mono ?_); rintro e w' ⟨rfl, ⟨nd, rfl⟩⟩; refine ⟨_, rfl, ?_⟩; have hcz33_0 : w6.cell? ⟨gb104, 0, none⟩ = some (.string (⟨#[]⟩ : ByteArray)) := (blk_cell BK104.out 0).trans rfl; have hfz33_0 := blk_frozen BK104.out 0) | ((with_reducible refine gate_thru rfl ?_); refine goesG_ rfl Tryd.func16 (by kernel_rfl) rfl #[.string (⟨#[112]⟩ : ByteArray), .pointer (some ⟨gb104, 0, none⟩)] (.pointer (some ⟨gb104, 0, none⟩)) rfl rfl zabhoi (by rfl) ?_; (with_reducible refine (impl_OpFault_1.calls (⟨#[112]⟩ : ByteArray) t103 true _ A11.out gb104 ?sidex).mono ?_); (case sidex => exact zpjhli); rintro e w' ⟨rfl, ⟨nd, rfl⟩⟩) | ((with_reducible refine gate_thru rfl ?_); refine goesG_ rfl Tryd.func16 (by kernel_rfl) rfl #[.string (⟨#[100]⟩ : ByteArray), .pointer (some ⟨gb104, 0, none⟩)] (.pointer (some ⟨gb104, 0, none⟩)) rfl rfl zabhoi (by rfl) ?_; (with_reducible refine (impl_OpFault_1.calls (⟨#[100]⟩ : ByteArray) t103 true _ A14.out gb104 ?sidex).mono ?_); (case sidex => exact zpjhli); rintro e w' ⟨rfl, ⟨nd, rfl⟩⟩) | ((with_reducible refine gate_thru rfl ?_); refine goesG_ rfl Tryd.func16 (by kernel_rfl) rfl #[.string (⟨#[118]⟩ : ByteArray), .pointer (some ⟨gb104, 0, none⟩)] (.pointer (some ⟨gb104, 0, none⟩)) rfl rfl zabhoi (by rfl) ?_; (with_reducible refine (impl_OpFault_1.calls (⟨#[118]⟩ : ByteArray) t103 true _ A17.out gb104 ?sidex).mono ?_); (case sidex => exact zpjhli); rintro e w' ⟨rfl, ⟨nd, rfl⟩⟩) | ((with_reducible refine gate_thru rfl ?_); refine goesG_ rfl Tryd.func16 (by kernel_rfl) rfl #[.string (⟨#[115]⟩ : ByteArray), .pointer (some ⟨gb104, 0, none⟩)] (.pointer (some ⟨gb104, 0, none⟩)) rfl rfl zabhoi (by rfl) ?_; (with_reducible refine (impl_OpFault_1.calls (⟨#[115]⟩ : ByteArray) t103 true _ A20.out gb104 ?sidex).mono ?_); (case sidex => exact zpjhli); rintro e w' ⟨rfl, ⟨nd, rfl⟩⟩) | ((with_reducible refine gate_thru rfl ?_); refine goesG_ rfl Tryd.func16 (by kernel_rfl) rfl #[.string (⟨#[111]⟩ : ByteArray), .pointer (some ⟨gb104, 0, none⟩)] (.pointer (some ⟨gb104, 0, none⟩)) rfl rfl zabhoi (by rfl) ?_; (with_reducible refine (impl_OpFault_1.calls (⟨#[111]⟩ : ByteArray) t103 false _ A26.out gb104 ?sidex).mono ?_); (case sidex => exact zpjhli); rintro e w' ⟨rfl, ⟨nd, rfl⟩⟩))
          go_meet
          case rel => exact ⟨_, (false), zagbkp, H', ⟨zpacfg⟩, ⟨zplhch⟩, ⟨zcphad⟩, ⟨znjalk⟩⟩
         replace c21 := Bool.eq_false_iff.mpr c21
         subst c21
         rw [if_neg fT_] at H
         revert H
         refine obs_ fun t111 A34 H => ?_
         by_cases c35 : t111 = true
         ·
          subst c35
          rw [if_pos rfl] at H
          have H' := aa H
          clear H
          have hnb36 := NB101_104.out
          have hnc36 := NB104_101.out
          obtain ⟨hcz37_0, hcz37_1, hcz37_2, hcz37_3, hcz37_4, hcz37_5, hfz37_0, hfz37_1, hfz37_2, hfz37_3, hfz37_4, hfz37_5⟩ := blk6_ BK101.out
          go_wp2_with (first | (refine gc_ Tryd.func18 (some 17) #[.int .i64 a0_0, .int .i64 1, .int .i64 8] ?_; (with_reducible refine (impl_within.calls a0_0 1 8 true _ A9.out).mono ?_); rintro e w' ⟨rfl, ⟨nd, rfl⟩⟩; refine ⟨_, rfl, ?_⟩; have hcz38_0 : w6.cell? ⟨gb104, 0, none⟩ = some (.string (⟨#[]⟩ : ByteArray)) := (blk_cell BK104.out 0).trans rfl; have hfz38_0 := blk_frozen BK104.out 0) | ((with_reducible refine gate_thru rfl ?_); refine goesG_ rfl Tryd.func16 (by kernel_rfl) rfl #[.string (⟨#[112]⟩ : ByteArray), .pointer (some ⟨gb104, 0, none⟩)] (.pointer (some ⟨gb104, 0, none⟩)) rfl rfl zabhoi (by rfl) ?_; (with_reducible refine (impl_OpFault_1.calls (⟨#[112]⟩ : ByteArray) t103 true _ A11.out gb104 ?sidex).mono ?_); (case sidex => exact zpjhli); rintro e w' ⟨rfl, ⟨nd, rfl⟩⟩) | ((with_reducible refine gate_thru rfl ?_); refine goesG_ rfl Tryd.func16 (by kernel_rfl) rfl #[.string (⟨#[100]⟩ : ByteArray), .pointer (some ⟨gb104, 0, none⟩)] (.pointer (some ⟨gb104, 0, none⟩)) rfl rfl zabhoi (by rfl) ?_; (with_reducible refine (impl_OpFault_1.calls (⟨#[100]⟩ : ByteArray) t103 true _ A14.out gb104 ?sidex).mono ?_); (case sidex => exact zpjhli); rintro e w' ⟨rfl, ⟨nd, rfl⟩⟩) | ((with_reducible refine gate_thru rfl ?_); refine goesG_ rfl Tryd.func16 (by kernel_rfl) rfl #[.string (⟨#[118]⟩ : ByteArray), .pointer (some ⟨gb104, 0, none⟩)] (.pointer (some ⟨gb104, 0, none⟩)) rfl rfl zabhoi (by rfl) ?_; (with_reducible refine (impl_OpFault_1.calls (⟨#[118]⟩ : ByteArray) t103 true _ A17.out gb104 ?sidex).mono ?_); (case sidex => exact zpjhli); rintro e w' ⟨rfl, ⟨nd, rfl⟩⟩) | ((with_reducible refine gate_thru rfl ?_); refine goesG_ rfl Tryd.func16 (by kernel_rfl) rfl #[.string (⟨#[115]⟩ : ByteArray), .pointer (some ⟨gb104, 0, none⟩)] (.pointer (some ⟨gb104, 0, none⟩)) rfl rfl zabhoi (by rfl) ?_; (with_reducible refine (impl_OpFault_1.calls (⟨#[115]⟩ : ByteArray) t103 false _ A20.out gb104 ?sidex).mono ?_); (case sidex => exact zpjhli); rintro e w' ⟨rfl, ⟨nd, rfl⟩⟩) | ((with_reducible refine gate_thru rfl ?_); refine goesG_ rfl Tryd.func16 (by kernel_rfl) rfl #[.string (⟨#[111]⟩ : ByteArray), .pointer (some ⟨gb104, 0, none⟩)] (.pointer (some ⟨gb104, 0, none⟩)) rfl rfl zabhoi (by rfl) ?_; (with_reducible refine (impl_OpFault_1.calls (⟨#[111]⟩ : ByteArray) t103 true _ A34.out gb104 ?sidex).mono ?_); (case sidex => exact zpjhli); rintro e w' ⟨rfl, ⟨nd, rfl⟩⟩))
          go_meet
          case rel => exact ⟨_, (a0_5), zagbkp, H', ⟨zpacfg⟩, ⟨zplhch⟩, ⟨zcphad⟩, ⟨znjalk⟩⟩
         replace c35 := Bool.eq_false_iff.mpr c35
         subst c35
         rw [if_neg fT_] at H
         have H' := aa H
         clear H
         have hnb39 := NB101_104.out
         have hnc39 := NB104_101.out
         obtain ⟨hcz40_0, hcz40_1, hcz40_2, hcz40_3, hcz40_4, hcz40_5, hfz40_0, hfz40_1, hfz40_2, hfz40_3, hfz40_4, hfz40_5⟩ := blk6_ BK101.out
         go_wp2_with (first | (refine gc_ Tryd.func18 (some 17) #[.int .i64 a0_0, .int .i64 1, .int .i64 8] ?_; (with_reducible refine (impl_within.calls a0_0 1 8 true _ A9.out).mono ?_); rintro e w' ⟨rfl, ⟨nd, rfl⟩⟩; refine ⟨_, rfl, ?_⟩; have hcz41_0 : w6.cell? ⟨gb104, 0, none⟩ = some (.string (⟨#[]⟩ : ByteArray)) := (blk_cell BK104.out 0).trans rfl; have hfz41_0 := blk_frozen BK104.out 0) | ((with_reducible refine gate_thru rfl ?_); refine goesG_ rfl Tryd.func16 (by kernel_rfl) rfl #[.string (⟨#[112]⟩ : ByteArray), .pointer (some ⟨gb104, 0, none⟩)] (.pointer (some ⟨gb104, 0, none⟩)) rfl rfl zabhoi (by rfl) ?_; (with_reducible refine (impl_OpFault_1.calls (⟨#[112]⟩ : ByteArray) t103 true _ A11.out gb104 ?sidex).mono ?_); (case sidex => exact zpjhli); rintro e w' ⟨rfl, ⟨nd, rfl⟩⟩) | ((with_reducible refine gate_thru rfl ?_); refine goesG_ rfl Tryd.func16 (by kernel_rfl) rfl #[.string (⟨#[100]⟩ : ByteArray), .pointer (some ⟨gb104, 0, none⟩)] (.pointer (some ⟨gb104, 0, none⟩)) rfl rfl zabhoi (by rfl) ?_; (with_reducible refine (impl_OpFault_1.calls (⟨#[100]⟩ : ByteArray) t103 true _ A14.out gb104 ?sidex).mono ?_); (case sidex => exact zpjhli); rintro e w' ⟨rfl, ⟨nd, rfl⟩⟩) | ((with_reducible refine gate_thru rfl ?_); refine goesG_ rfl Tryd.func16 (by kernel_rfl) rfl #[.string (⟨#[118]⟩ : ByteArray), .pointer (some ⟨gb104, 0, none⟩)] (.pointer (some ⟨gb104, 0, none⟩)) rfl rfl zabhoi (by rfl) ?_; (with_reducible refine (impl_OpFault_1.calls (⟨#[118]⟩ : ByteArray) t103 true _ A17.out gb104 ?sidex).mono ?_); (case sidex => exact zpjhli); rintro e w' ⟨rfl, ⟨nd, rfl⟩⟩) | ((with_reducible refine gate_thru rfl ?_); refine goesG_ rfl Tryd.func16 (by kernel_rfl) rfl #[.string (⟨#[115]⟩ : ByteArray), .pointer (some ⟨gb104, 0, none⟩)] (.pointer (some ⟨gb104, 0, none⟩)) rfl rfl zabhoi (by rfl) ?_; (with_reducible refine (impl_OpFault_1.calls (⟨#[115]⟩ : ByteArray) t103 false _ A20.out gb104 ?sidex).mono ?_); (case sidex => exact zpjhli); rintro e w' ⟨rfl, ⟨nd, rfl⟩⟩) | ((with_reducible refine gate_thru rfl ?_); refine goesG_ rfl Tryd.func16 (by kernel_rfl) rfl #[.string (⟨#[111]⟩ : ByteArray), .pointer (some ⟨gb104, 0, none⟩)] (.pointer (some ⟨gb104, 0, none⟩)) rfl rfl zabhoi (by rfl) ?_; (with_reducible refine (impl_OpFault_1.calls (⟨#[111]⟩ : ByteArray) t103 false _ A34.out gb104 ?sidex).mono ?_); (case sidex => exact zpjhli); rintro e w' ⟨rfl, ⟨nd, rfl⟩⟩))
         go_meet
         case rel => exact ⟨_, (false), zagbkp, H', ⟨zpacfg⟩, ⟨zplhch⟩, ⟨zcphad⟩, ⟨znjalk⟩⟩
        have H' := aa H
        clear H
        have hnb42 := NB101_104.out
        have hnc42 := NB104_101.out
        obtain ⟨hcz43_0, hcz43_1, hcz43_2, hcz43_3, hcz43_4, hcz43_5, hfz43_0, hfz43_1, hfz43_2, hfz43_3, hfz43_4, hfz43_5⟩ := blk6_ BK101.out
        go_wp2_with (first | (refine gc_ Tryd.func18 (some 17) #[.int .i64 a0_0, .int .i64 1, .int .i64 8] ?_; (with_reducible refine (impl_within.calls a0_0 1 8 true _ A9.out).mono ?_); rintro e w' ⟨rfl, ⟨nd, rfl⟩⟩; refine ⟨_, rfl, ?_⟩; have hcz44_0 : w6.cell? ⟨gb104, 0, none⟩ = some (.string (⟨#[]⟩ : ByteArray)) := (blk_cell BK104.out 0).trans rfl; have hfz44_0 := blk_frozen BK104.out 0) | ((with_reducible refine gate_thru rfl ?_); refine goesG_ rfl Tryd.func16 (by kernel_rfl) rfl #[.string (⟨#[112]⟩ : ByteArray), .pointer (some ⟨gb104, 0, none⟩)] (.pointer (some ⟨gb104, 0, none⟩)) rfl rfl zabhoi (by rfl) ?_; (with_reducible refine (impl_OpFault_1.calls (⟨#[112]⟩ : ByteArray) t103 true _ A11.out gb104 ?sidex).mono ?_); (case sidex => exact zpjhli); rintro e w' ⟨rfl, ⟨nd, rfl⟩⟩) | ((with_reducible refine gate_thru rfl ?_); refine goesG_ rfl Tryd.func16 (by kernel_rfl) rfl #[.string (⟨#[100]⟩ : ByteArray), .pointer (some ⟨gb104, 0, none⟩)] (.pointer (some ⟨gb104, 0, none⟩)) rfl rfl zabhoi (by rfl) ?_; (with_reducible refine (impl_OpFault_1.calls (⟨#[100]⟩ : ByteArray) t103 true _ A14.out gb104 ?sidex).mono ?_); (case sidex => exact zpjhli); rintro e w' ⟨rfl, ⟨nd, rfl⟩⟩) | ((with_reducible refine gate_thru rfl ?_); refine goesG_ rfl Tryd.func16 (by kernel_rfl) rfl #[.string (⟨#[118]⟩ : ByteArray), .pointer (some ⟨gb104, 0, none⟩)] (.pointer (some ⟨gb104, 0, none⟩)) rfl rfl zabhoi (by rfl) ?_; (with_reducible refine (impl_OpFault_1.calls (⟨#[118]⟩ : ByteArray) t103 true _ A17.out gb104 ?sidex).mono ?_); (case sidex => exact zpjhli); rintro e w' ⟨rfl, ⟨nd, rfl⟩⟩))
        go_meet
        case rel => exact ⟨_, (true), zagbkp, H', ⟨zpacfg⟩, ⟨zplhch⟩, ⟨zcphad⟩, ⟨znjalk⟩⟩
       replace c18 := Bool.eq_false_iff.mpr c18
       subst c18
       rw [if_neg fT_] at H
       revert H
       refine obs_ fun t112 A45 H => ?_
       by_cases c46 : t112 = true
       ·
        subst c46
        rw [if_pos rfl] at H
        by_cases c47 : a0_4 = true
        ·
         subst c47
         rw [if_pos rfl] at H
         have H' := aa H
         clear H
         have hnb48 := NB101_104.out
         have hnc48 := NB104_101.out
         obtain ⟨hcz49_0, hcz49_1, hcz49_2, hcz49_3, hcz49_4, hcz49_5, hfz49_0, hfz49_1, hfz49_2, hfz49_3, hfz49_4, hfz49_5⟩ := blk6_ BK101.out
         go_wp2_with (first | (refine gc_ Tryd.func18 (some 17) #[.int .i64 a0_0, .int .i64 1, .int .i64 8] ?_; (with_reducible refine (impl_within.calls a0_0 1 8 true _ A9.out).mono ?_); rintro e w' ⟨rfl, ⟨nd, rfl⟩⟩; refine ⟨_, rfl, ?_⟩; have hcz50_0 : w6.cell? ⟨gb104, 0, none⟩ = some (.string (⟨#[]⟩ : ByteArray)) := (blk_cell BK104.out 0).trans rfl; have hfz50_0 := blk_frozen BK104.out 0) | ((with_reducible refine gate_thru rfl ?_); refine goesG_ rfl Tryd.func16 (by kernel_rfl) rfl #[.string (⟨#[112]⟩ : ByteArray), .pointer (some ⟨gb104, 0, none⟩)] (.pointer (some ⟨gb104, 0, none⟩)) rfl rfl zabhoi (by rfl) ?_; (with_reducible refine (impl_OpFault_1.calls (⟨#[112]⟩ : ByteArray) t103 true _ A11.out gb104 ?sidex).mono ?_); (case sidex => exact zpjhli); rintro e w' ⟨rfl, ⟨nd, rfl⟩⟩) | ((with_reducible refine gate_thru rfl ?_); refine goesG_ rfl Tryd.func16 (by kernel_rfl) rfl #[.string (⟨#[100]⟩ : ByteArray), .pointer (some ⟨gb104, 0, none⟩)] (.pointer (some ⟨gb104, 0, none⟩)) rfl rfl zabhoi (by rfl) ?_; (with_reducible refine (impl_OpFault_1.calls (⟨#[100]⟩ : ByteArray) t103 true _ A14.out gb104 ?sidex).mono ?_); (case sidex => exact zpjhli); rintro e w' ⟨rfl, ⟨nd, rfl⟩⟩) | ((with_reducible refine gate_thru rfl ?_); refine goesG_ rfl Tryd.func16 (by kernel_rfl) rfl #[.string (⟨#[118]⟩ : ByteArray), .pointer (some ⟨gb104, 0, none⟩)] (.pointer (some ⟨gb104, 0, none⟩)) rfl rfl zabhoi (by rfl) ?_; (with_reducible refine (impl_OpFault_1.calls (⟨#[118]⟩ : ByteArray) t103 false _ A17.out gb104 ?sidex).mono ?_); (case sidex => exact zpjhli); rintro e w' ⟨rfl, ⟨nd, rfl⟩⟩) | ((with_reducible refine gate_thru rfl ?_); refine goesG_ rfl Tryd.func16 (by kernel_rfl) rfl #[.string (⟨#[115]⟩ : ByteArray), .pointer (some ⟨gb104, 0, none⟩)] (.pointer (some ⟨gb104, 0, none⟩)) rfl rfl zabhoi (by rfl) ?_; (with_reducible refine (impl_OpFault_1.calls (⟨#[115]⟩ : ByteArray) t103 true _ A45.out gb104 ?sidex).mono ?_); (case sidex => exact zpjhli); rintro e w' ⟨rfl, ⟨nd, rfl⟩⟩))
         go_meet
         case rel => exact ⟨_, (true), zagbkp, H', ⟨zpacfg⟩, ⟨zplhch⟩, ⟨zcphad⟩, ⟨znjalk⟩⟩
        replace c47 := Bool.eq_false_iff.mpr c47
        subst c47
        rw [if_neg fT_] at H
        revert H
        refine obs_ fun t113 A51 H => ?_
        by_cases c52 : t113 = true
        ·
         subst c52
         rw [if_pos rfl] at H
         have H' := aa H
         clear H
         have hnb53 := NB101_104.out
         have hnc53 := NB104_101.out
         obtain ⟨hcz54_0, hcz54_1, hcz54_2, hcz54_3, hcz54_4, hcz54_5, hfz54_0, hfz54_1, hfz54_2, hfz54_3, hfz54_4, hfz54_5⟩ := blk6_ BK101.out
         go_wp2_with (first | (refine gc_ Tryd.func18 (some 17) #[.int .i64 a0_0, .int .i64 1, .int .i64 8] ?_; (with_reducible refine (impl_within.calls a0_0 1 8 true _ A9.out).mono ?_); rintro e w' ⟨rfl, ⟨nd, rfl⟩⟩; refine ⟨_, rfl, ?_⟩; have hcz55_0 : w6.cell? ⟨gb104, 0, none⟩ = some (.string (⟨#[]⟩ : ByteArray)) := (blk_cell BK104.out 0).trans rfl; have hfz55_0 := blk_frozen BK104.out 0) | ((with_reducible refine gate_thru rfl ?_); refine goesG_ rfl Tryd.func16 (by kernel_rfl) rfl #[.string (⟨#[112]⟩ : ByteArray), .pointer (some ⟨gb104, 0, none⟩)] (.pointer (some ⟨gb104, 0, none⟩)) rfl rfl zabhoi (by rfl) ?_; (with_reducible refine (impl_OpFault_1.calls (⟨#[112]⟩ : ByteArray) t103 true _ A11.out gb104 ?sidex).mono ?_); (case sidex => exact zpjhli); rintro e w' ⟨rfl, ⟨nd, rfl⟩⟩) | ((with_reducible refine gate_thru rfl ?_); refine goesG_ rfl Tryd.func16 (by kernel_rfl) rfl #[.string (⟨#[100]⟩ : ByteArray), .pointer (some ⟨gb104, 0, none⟩)] (.pointer (some ⟨gb104, 0, none⟩)) rfl rfl zabhoi (by rfl) ?_; (with_reducible refine (impl_OpFault_1.calls (⟨#[100]⟩ : ByteArray) t103 true _ A14.out gb104 ?sidex).mono ?_); (case sidex => exact zpjhli); rintro e w' ⟨rfl, ⟨nd, rfl⟩⟩) | ((with_reducible refine gate_thru rfl ?_); refine goesG_ rfl Tryd.func16 (by kernel_rfl) rfl #[.string (⟨#[118]⟩ : ByteArray), .pointer (some ⟨gb104, 0, none⟩)] (.pointer (some ⟨gb104, 0, none⟩)) rfl rfl zabhoi (by rfl) ?_; (with_reducible refine (impl_OpFault_1.calls (⟨#[118]⟩ : ByteArray) t103 false _ A17.out gb104 ?sidex).mono ?_); (case sidex => exact zpjhli); rintro e w' ⟨rfl, ⟨nd, rfl⟩⟩) | ((with_reducible refine gate_thru rfl ?_); refine goesG_ rfl Tryd.func16 (by kernel_rfl) rfl #[.string (⟨#[115]⟩ : ByteArray), .pointer (some ⟨gb104, 0, none⟩)] (.pointer (some ⟨gb104, 0, none⟩)) rfl rfl zabhoi (by rfl) ?_; (with_reducible refine (impl_OpFault_1.calls (⟨#[115]⟩ : ByteArray) t103 true _ A45.out gb104 ?sidex).mono ?_); (case sidex => exact zpjhli); rintro e w' ⟨rfl, ⟨nd, rfl⟩⟩) | ((with_reducible refine gate_thru rfl ?_); refine goesG_ rfl Tryd.func16 (by kernel_rfl) rfl #[.string (⟨#[111]⟩ : ByteArray), .pointer (some ⟨gb104, 0, none⟩)] (.pointer (some ⟨gb104, 0, none⟩)) rfl rfl zabhoi (by rfl) ?_; (with_reducible refine (impl_OpFault_1.calls (⟨#[111]⟩ : ByteArray) t103 true _ A51.out gb104 ?sidex).mono ?_); (case sidex => exact zpjhli); rintro e w' ⟨rfl, ⟨nd, rfl⟩⟩))
         go_meet
         case rel => exact ⟨_, (a0_5), zagbkp, H', ⟨zpacfg⟩, ⟨zplhch⟩, ⟨zcphad⟩, ⟨znjalk⟩⟩
        replace c52 := Bool.eq_false_iff.mpr c52
        subst c52
        rw [if_neg fT_] at H
        have H' := aa H
        clear H
        have hnb56 := NB101_104.out
        have hnc56 := NB104_101.out
        obtain ⟨hcz57_0, hcz57_1, hcz57_2, hcz57_3, hcz57_4, hcz57_5, hfz57_0, hfz57_1, hfz57_2, hfz57_3, hfz57_4, hfz57_5⟩ := blk6_ BK101.out
        go_wp2_with (first | (refine gc_ Tryd.func18 (some 17) #[.int .i64 a0_0, .int .i64 1, .int .i64 8] ?_; (with_reducible refine (impl_within.calls a0_0 1 8 true _ A9.out).mono ?_); rintro e w' ⟨rfl, ⟨nd, rfl⟩⟩; refine ⟨_, rfl, ?_⟩; have hcz58_0 : w6.cell? ⟨gb104, 0, none⟩ = some (.string (⟨#[]⟩ : ByteArray)) := (blk_cell BK104.out 0).trans rfl; have hfz58_0 := blk_frozen BK104.out 0) | ((with_reducible refine gate_thru rfl ?_); refine goesG_ rfl Tryd.func16 (by kernel_rfl) rfl #[.string (⟨#[112]⟩ : ByteArray), .pointer (some ⟨gb104, 0, none⟩)] (.pointer (some ⟨gb104, 0, none⟩)) rfl rfl zabhoi (by rfl) ?_; (with_reducible refine (impl_OpFault_1.calls (⟨#[112]⟩ : ByteArray) t103 true _ A11.out gb104 ?sidex).mono ?_); (case sidex => exact zpjhli); rintro e w' ⟨rfl, ⟨nd, rfl⟩⟩) | ((with_reducible refine gate_thru rfl ?_); refine goesG_ rfl Tryd.func16 (by kernel_rfl) rfl #[.string (⟨#[100]⟩ : ByteArray), .pointer (some ⟨gb104, 0, none⟩)] (.pointer (some ⟨gb104, 0, none⟩)) rfl rfl zabhoi (by rfl) ?_; (with_reducible refine (impl_OpFault_1.calls (⟨#[100]⟩ : ByteArray) t103 true _ A14.out gb104 ?sidex).mono ?_); (case sidex => exact zpjhli); rintro e w' ⟨rfl, ⟨nd, rfl⟩⟩) | ((with_reducible refine gate_thru rfl ?_); refine goesG_ rfl Tryd.func16 (by kernel_rfl) rfl #[.string (⟨#[118]⟩ : ByteArray), .pointer (some ⟨gb104, 0, none⟩)] (.pointer (some ⟨gb104, 0, none⟩)) rfl rfl zabhoi (by rfl) ?_; (with_reducible refine (impl_OpFault_1.calls (⟨#[118]⟩ : ByteArray) t103 false _ A17.out gb104 ?sidex).mono ?_); (case sidex => exact zpjhli); rintro e w' ⟨rfl, ⟨nd, rfl⟩⟩) | ((with_reducible refine gate_thru rfl ?_); refine goesG_ rfl Tryd.func16 (by kernel_rfl) rfl #[.string (⟨#[115]⟩ : ByteArray), .pointer (some ⟨gb104, 0, none⟩)] (.pointer (some ⟨gb104, 0, none⟩)) rfl rfl zabhoi (by rfl) ?_; (with_reducible refine (impl_OpFault_1.calls (⟨#[115]⟩ : ByteArray) t103 true _ A45.out gb104 ?sidex).mono ?_); (case sidex => exact zpjhli); rintro e w' ⟨rfl, ⟨nd, rfl⟩⟩) | ((with_reducible refine gate_thru rfl ?_); refine goesG_ rfl Tryd.func16 (by kernel_rfl) rfl #[.string (⟨#[111]⟩ : ByteArray), .pointer (some ⟨gb104, 0, none⟩)] (.pointer (some ⟨gb104, 0, none⟩)) rfl rfl zabhoi (by rfl) ?_; (with_reducible refine (impl_OpFault_1.calls (⟨#[111]⟩ : ByteArray) t103 false _ A51.out gb104 ?sidex).mono ?_); (case sidex => exact zpjhli); rintro e w' ⟨rfl, ⟨nd, rfl⟩⟩))
        go_meet
        case rel => exact ⟨_, (false), zagbkp, H', ⟨zpacfg⟩, ⟨zplhch⟩, ⟨zcphad⟩, ⟨znjalk⟩⟩
       replace c46 := Bool.eq_false_iff.mpr c46
       subst c46
       rw [if_neg fT_] at H
       revert H
       refine obs_ fun t114 A59 H => ?_
       by_cases c60 : t114 = true
       ·
        subst c60
        rw [if_pos rfl] at H
        have H' := aa H
        clear H
        have hnb61 := NB101_104.out
        have hnc61 := NB104_101.out
        obtain ⟨hcz62_0, hcz62_1, hcz62_2, hcz62_3, hcz62_4, hcz62_5, hfz62_0, hfz62_1, hfz62_2, hfz62_3, hfz62_4, hfz62_5⟩ := blk6_ BK101.out
        go_wp2_with (first | (refine gc_ Tryd.func18 (some 17) #[.int .i64 a0_0, .int .i64 1, .int .i64 8] ?_; (with_reducible refine (impl_within.calls a0_0 1 8 true _ A9.out).mono ?_); rintro e w' ⟨rfl, ⟨nd, rfl⟩⟩; refine ⟨_, rfl, ?_⟩; have hcz63_0 : w6.cell? ⟨gb104, 0, none⟩ = some (.string (⟨#[]⟩ : ByteArray)) := (blk_cell BK104.out 0).trans rfl; have hfz63_0 := blk_frozen BK104.out 0) | ((with_reducible refine gate_thru rfl ?_); refine goesG_ rfl Tryd.func16 (by kernel_rfl) rfl #[.string (⟨#[112]⟩ : ByteArray), .pointer (some ⟨gb104, 0, none⟩)] (.pointer (some ⟨gb104, 0, none⟩)) rfl rfl zabhoi (by rfl) ?_; (with_reducible refine (impl_OpFault_1.calls (⟨#[112]⟩ : ByteArray) t103 true _ A11.out gb104 ?sidex).mono ?_); (case sidex => exact zpjhli); rintro e w' ⟨rfl, ⟨nd, rfl⟩⟩) | ((with_reducible refine gate_thru rfl ?_); refine goesG_ rfl Tryd.func16 (by kernel_rfl) rfl #[.string (⟨#[100]⟩ : ByteArray), .pointer (some ⟨gb104, 0, none⟩)] (.pointer (some ⟨gb104, 0, none⟩)) rfl rfl zabhoi (by rfl) ?_; (with_reducible refine (impl_OpFault_1.calls (⟨#[100]⟩ : ByteArray) t103 true _ A14.out gb104 ?sidex).mono ?_); (case sidex => exact zpjhli); rintro e w' ⟨rfl, ⟨nd, rfl⟩⟩) | ((with_reducible refine gate_thru rfl ?_); refine goesG_ rfl Tryd.func16 (by kernel_rfl) rfl #[.string (⟨#[118]⟩ : ByteArray), .pointer (some ⟨gb104, 0, none⟩)] (.pointer (some ⟨gb104, 0, none⟩)) rfl rfl zabhoi (by rfl) ?_; (with_reducible refine (impl_OpFault_1.calls (⟨#[118]⟩ : ByteArray) t103 false _ A17.out gb104 ?sidex).mono ?_); (case sidex => exact zpjhli); rintro e w' ⟨rfl, ⟨nd, rfl⟩⟩) | ((with_reducible refine gate_thru rfl ?_); refine goesG_ rfl Tryd.func16 (by kernel_rfl) rfl #[.string (⟨#[115]⟩ : ByteArray), .pointer (some ⟨gb104, 0, none⟩)] (.pointer (some ⟨gb104, 0, none⟩)) rfl rfl zabhoi (by rfl) ?_; (with_reducible refine (impl_OpFault_1.calls (⟨#[115]⟩ : ByteArray) t103 false _ A45.out gb104 ?sidex).mono ?_); (case sidex => exact zpjhli); rintro e w' ⟨rfl, ⟨nd, rfl⟩⟩) | ((with_reducible refine gate_thru rfl ?_); refine goesG_ rfl Tryd.func16 (by kernel_rfl) rfl #[.string (⟨#[111]⟩ : ByteArray), .pointer (some ⟨gb104, 0, none⟩)] (.pointer (some ⟨gb104, 0, none⟩)) rfl rfl zabhoi (by rfl) ?_; (with_reducible refine (impl_OpFault_1.calls (⟨#[111]⟩ : ByteArray) t103 true _ A59.out gb104 ?sidex).mono ?_); (case sidex => exact zpjhli); rintro e w' ⟨rfl, ⟨nd, rfl⟩⟩))
        go_meet
        case rel => exact ⟨_, (a0_5), zagbkp, H', ⟨zpacfg⟩, ⟨zplhch⟩, ⟨zcphad⟩, ⟨znjalk⟩⟩
       replace c60 := Bool.eq_false_iff.mpr c60
       subst c60
       rw [if_neg fT_] at H
       have H' := aa H
       clear H
       have hnb64 := NB101_104.out
       have hnc64 := NB104_101.out
       obtain ⟨hcz65_0, hcz65_1, hcz65_2, hcz65_3, hcz65_4, hcz65_5, hfz65_0, hfz65_1, hfz65_2, hfz65_3, hfz65_4, hfz65_5⟩ := blk6_ BK101.out
       go_wp2_with (first | (refine gc_ Tryd.func18 (some 17) #[.int .i64 a0_0, .int .i64 1, .int .i64 8] ?_; (with_reducible refine (impl_within.calls a0_0 1 8 true _ A9.out).mono ?_); rintro e w' ⟨rfl, ⟨nd, rfl⟩⟩; refine ⟨_, rfl, ?_⟩; have hcz66_0 : w6.cell? ⟨gb104, 0, none⟩ = some (.string (⟨#[]⟩ : ByteArray)) := (blk_cell BK104.out 0).trans rfl; have hfz66_0 := blk_frozen BK104.out 0) | ((with_reducible refine gate_thru rfl ?_); refine goesG_ rfl Tryd.func16 (by kernel_rfl) rfl #[.string (⟨#[112]⟩ : ByteArray), .pointer (some ⟨gb104, 0, none⟩)] (.pointer (some ⟨gb104, 0, none⟩)) rfl rfl zabhoi (by rfl) ?_; (with_reducible refine (impl_OpFault_1.calls (⟨#[112]⟩ : ByteArray) t103 true _ A11.out gb104 ?sidex).mono ?_); (case sidex => exact zpjhli); rintro e w' ⟨rfl, ⟨nd, rfl⟩⟩) | ((with_reducible refine gate_thru rfl ?_); refine goesG_ rfl Tryd.func16 (by kernel_rfl) rfl #[.string (⟨#[100]⟩ : ByteArray), .pointer (some ⟨gb104, 0, none⟩)] (.pointer (some ⟨gb104, 0, none⟩)) rfl rfl zabhoi (by rfl) ?_; (with_reducible refine (impl_OpFault_1.calls (⟨#[100]⟩ : ByteArray) t103 true _ A14.out gb104 ?sidex).mono ?_); (case sidex => exact zpjhli); rintro e w' ⟨rfl, ⟨nd, rfl⟩⟩) | ((with_reducible refine gate_thru rfl ?_); refine goesG_ rfl Tryd.func16 (by kernel_rfl) rfl #[.string (⟨#[118]⟩ : ByteArray), .pointer (some ⟨gb104, 0, none⟩)] (.pointer (some ⟨gb104, 0, none⟩)) rfl rfl zabhoi (by rfl) ?_; (with_reducible refine (impl_OpFault_1.calls (⟨#[118]⟩ : ByteArray) t103 false _ A17.out gb104 ?sidex).mono ?_); (case sidex => exact zpjhli); rintro e w' ⟨rfl, ⟨nd, rfl⟩⟩) | ((with_reducible refine gate_thru rfl ?_); refine goesG_ rfl Tryd.func16 (by kernel_rfl) rfl #[.string (⟨#[115]⟩ : ByteArray), .pointer (some ⟨gb104, 0, none⟩)] (.pointer (some ⟨gb104, 0, none⟩)) rfl rfl zabhoi (by rfl) ?_; (with_reducible refine (impl_OpFault_1.calls (⟨#[115]⟩ : ByteArray) t103 false _ A45.out gb104 ?sidex).mono ?_); (case sidex => exact zpjhli); rintro e w' ⟨rfl, ⟨nd, rfl⟩⟩) | ((with_reducible refine gate_thru rfl ?_); refine goesG_ rfl Tryd.func16 (by kernel_rfl) rfl #[.string (⟨#[111]⟩ : ByteArray), .pointer (some ⟨gb104, 0, none⟩)] (.pointer (some ⟨gb104, 0, none⟩)) rfl rfl zabhoi (by rfl) ?_; (with_reducible refine (impl_OpFault_1.calls (⟨#[111]⟩ : ByteArray) t103 false _ A59.out gb104 ?sidex).mono ?_); (case sidex => exact zpjhli); rintro e w' ⟨rfl, ⟨nd, rfl⟩⟩))
       go_meet
       case rel => exact ⟨_, (false), zagbkp, H', ⟨zpacfg⟩, ⟨zplhch⟩, ⟨zcphad⟩, ⟨znjalk⟩⟩
      have H' := aa H
      clear H
      have hnb67 := NB101_104.out
      have hnc67 := NB104_101.out
      obtain ⟨hcz68_0, hcz68_1, hcz68_2, hcz68_3, hcz68_4, hcz68_5, hfz68_0, hfz68_1, hfz68_2, hfz68_3, hfz68_4, hfz68_5⟩ := blk6_ BK101.out
      go_wp2_with (first | (refine gc_ Tryd.func18 (some 17) #[.int .i64 a0_0, .int .i64 1, .int .i64 8] ?_; (with_reducible refine (impl_within.calls a0_0 1 8 true _ A9.out).mono ?_); rintro e w' ⟨rfl, ⟨nd, rfl⟩⟩; refine ⟨_, rfl, ?_⟩; have hcz69_0 : w6.cell? ⟨gb104, 0, none⟩ = some (.string (⟨#[]⟩ : ByteArray)) := (blk_cell BK104.out 0).trans rfl; have hfz69_0 := blk_frozen BK104.out 0) | ((with_reducible refine gate_thru rfl ?_); refine goesG_ rfl Tryd.func16 (by kernel_rfl) rfl #[.string (⟨#[112]⟩ : ByteArray), .pointer (some ⟨gb104, 0, none⟩)] (.pointer (some ⟨gb104, 0, none⟩)) rfl rfl zabhoi (by rfl) ?_; (with_reducible refine (impl_OpFault_1.calls (⟨#[112]⟩ : ByteArray) t103 true _ A11.out gb104 ?sidex).mono ?_); (case sidex => exact zpjhli); rintro e w' ⟨rfl, ⟨nd, rfl⟩⟩) | ((with_reducible refine gate_thru rfl ?_); refine goesG_ rfl Tryd.func16 (by kernel_rfl) rfl #[.string (⟨#[100]⟩ : ByteArray), .pointer (some ⟨gb104, 0, none⟩)] (.pointer (some ⟨gb104, 0, none⟩)) rfl rfl zabhoi (by rfl) ?_; (with_reducible refine (impl_OpFault_1.calls (⟨#[100]⟩ : ByteArray) t103 true _ A14.out gb104 ?sidex).mono ?_); (case sidex => exact zpjhli); rintro e w' ⟨rfl, ⟨nd, rfl⟩⟩))
      go_meet
      case rel => exact ⟨_, (true), zagbkp, H', ⟨zpacfg⟩, ⟨zplhch⟩, ⟨zcphad⟩, ⟨znjalk⟩⟩
     replace c15 := Bool.eq_false_iff.mpr c15
     subst c15
     rw [if_neg fT_] at H
     revert H
     refine obs_ fun t115 A70 H => ?_
     by_cases c71 : t115 = true
     ·
      subst c71
      rw [if_pos rfl] at H
      revert H
      refine itE_ (fun c72b0 c72b1 H => ?_) fun c72b0 c72b1 H => ?_
      ·
       revert H
       refine obs_ fun t116 A73 H => ?_
       by_cases c74 : t116 = true
       ·
        subst c74
        rw [if_pos rfl] at H
        by_cases c75 : a0_4 = true
        ·
         subst c75
         rw [if_pos rfl] at H
         have H' := aa H
         clear H
         have hnb76 := NB101_104.out
         have hnc76 := NB104_101.out
         obtain ⟨hcz77_0, hcz77_1, hcz77_2, hcz77_3, hcz77_4, hcz77_5, hfz77_0, hfz77_1, hfz77_2, hfz77_3, hfz77_4, hfz77_5⟩ := blk6_ BK101.out
         go_wp2_with (first | (refine gc_ Tryd.func18 (some 17) #[.int .i64 a0_0, .int .i64 1, .int .i64 8] ?_; (with_reducible refine (impl_within.calls a0_0 1 8 true _ A9.out).mono ?_); rintro e w' ⟨rfl, ⟨nd, rfl⟩⟩; refine ⟨_, rfl, ?_⟩; have hcz78_0 : w6.cell? ⟨gb104, 0, none⟩ = some (.string (⟨#[]⟩ : ByteArray)) := (blk_cell BK104.out 0).trans rfl; have hfz78_0 := blk_frozen BK104.out 0) | ((with_reducible refine gate_thru rfl ?_); refine goesG_ rfl Tryd.func16 (by kernel_rfl) rfl #[.string (⟨#[112]⟩ : ByteArray), .pointer (some ⟨gb104, 0, none⟩)] (.pointer (some ⟨gb104, 0, none⟩)) rfl rfl zabhoi (by rfl) ?_; (with_reducible refine (impl_OpFault_1.calls (⟨#[112]⟩ : ByteArray) t103 true _ A11.out gb104 ?sidex).mono ?_); (case sidex => exact zpjhli); rintro e w' ⟨rfl, ⟨nd, rfl⟩⟩) | ((with_reducible refine gate_thru rfl ?_); refine goesG_ rfl Tryd.func16 (by kernel_rfl) rfl #[.string (⟨#[100]⟩ : ByteArray), .pointer (some ⟨gb104, 0, none⟩)] (.pointer (some ⟨gb104, 0, none⟩)) rfl rfl zabhoi (by rfl) ?_; (with_reducible refine (impl_OpFault_1.calls (⟨#[100]⟩ : ByteArray) t103 false _ A14.out gb104 ?sidex).mono ?_); (case sidex => exact zpjhli); rintro e w' ⟨rfl, ⟨nd, rfl⟩⟩) | ((with_reducible refine gate_thru rfl ?_); refine goesG_ rfl Tryd.func16 (by kernel_rfl) rfl #[.string (⟨#[118]⟩ : ByteArray), .pointer (some ⟨gb104, 0, none⟩)] (.pointer (some ⟨gb104, 0, none⟩)) rfl rfl zabhoi (by rfl) ?_; (with_reducible refine (impl_OpFault_1.calls (⟨#[118]⟩ : ByteArray) t103 true _ A70.out gb104 ?sidex).mono ?_); (case sidex => exact zpjhli); rintro e w' ⟨rfl, ⟨nd, rfl⟩⟩) | ((with_reducible refine gate_thru rfl ?_); refine goesG_ rfl Tryd.func16 (by kernel_rfl) rfl #[.string (⟨#[115]⟩ : ByteArray), .pointer (some ⟨gb104, 0, none⟩)] (.pointer (some ⟨gb104, 0, none⟩)) rfl rfl zabhoi (by rfl) ?_; (with_reducible refine (impl_OpFault_1.calls (⟨#[115]⟩ : ByteArray) t103 true _ A73.out gb104 ?sidex).mono ?_); (case sidex => exact zpjhli); rintro e w' ⟨rfl, ⟨nd, rfl⟩⟩))
         go_meet
         case rel => exact ⟨_, (true), zagbkp, H', ⟨zpacfg⟩, ⟨zplhch⟩, ⟨zcphad⟩, ⟨znjalk⟩⟩
        replace c75 := Bool.eq_false_iff.mpr c75
        subst c75
        rw [if_neg fT_] at H
        revert H
        refine obs_ fun t117 A79 H => ?_
        by_cases c80 : t117 = true
        ·
         subst c80
         rw [if_pos rfl] at H
         have H' := aa H
         clear H
         have hnb81 := NB101_104.out
         have hnc81 := NB104_101.out
         obtain ⟨hcz82_0, hcz82_1, hcz82_2, hcz82_3, hcz82_4, hcz82_5, hfz82_0, hfz82_1, hfz82_2, hfz82_3, hfz82_4, hfz82_5⟩ := blk6_ BK101.out
         go_wp2_with (first | (refine gc_ Tryd.func18 (some 17) #[.int .i64 a0_0, .int .i64 1, .int .i64 8] ?_; (with_reducible refine (impl_within.calls a0_0 1 8 true _ A9.out).mono ?_); rintro e w' ⟨rfl, ⟨nd, rfl⟩⟩; refine ⟨_, rfl, ?_⟩; have hcz83_0 : w6.cell? ⟨gb104, 0, none⟩ = some (.string (⟨#[]⟩ : ByteArray)) := (blk_cell BK104.out 0).trans rfl; have hfz83_0 := blk_frozen BK104.out 0) | ((with_reducible refine gate_thru rfl ?_); refine goesG_ rfl Tryd.func16 (by kernel_rfl) rfl #[.string (⟨#[112]⟩ : ByteArray), .pointer (some ⟨gb104, 0, none⟩)] (.pointer (some ⟨gb104, 0, none⟩)) rfl rfl zabhoi (by rfl) ?_; (with_reducible refine (impl_OpFault_1.calls (⟨#[112]⟩ : ByteArray) t103 true _ A11.out gb104 ?sidex).mono ?_); (case sidex => exact zpjhli); rintro e w' ⟨rfl, ⟨nd, rfl⟩⟩) | ((with_reducible refine gate_thru rfl ?_); refine goesG_ rfl Tryd.func16 (by kernel_rfl) rfl #[.string (⟨#[100]⟩ : ByteArray), .pointer (some ⟨gb104, 0, none⟩)] (.pointer (some ⟨gb104, 0, none⟩)) rfl rfl zabhoi (by rfl) ?_; (with_reducible refine (impl_OpFault_1.calls (⟨#[100]⟩ : ByteArray) t103 false _ A14.out gb104 ?sidex).mono ?_); (case sidex => exact zpjhli); rintro e w' ⟨rfl, ⟨nd, rfl⟩⟩) | ((with_reducible refine gate_thru rfl ?_); refine goesG_ rfl Tryd.func16 (by kernel_rfl) rfl #[.string (⟨#[118]⟩ : ByteArray), .pointer (some ⟨gb104, 0, none⟩)] (.pointer (some ⟨gb104, 0, none⟩)) rfl rfl zabhoi (by rfl) ?_; (with_reducible refine (impl_OpFault_1.calls (⟨#[118]⟩ : ByteArray) t103 true _ A70.out gb104 ?sidex).mono ?_); (case sidex => exact zpjhli); rintro e w' ⟨rfl, ⟨nd, rfl⟩⟩) | ((with_reducible refine gate_thru rfl ?_); refine goesG_ rfl Tryd.func16 (by kernel_rfl) rfl #[.string (⟨#[115]⟩ : ByteArray), .pointer (some ⟨gb104, 0, none⟩)] (.pointer (some ⟨gb104, 0, none⟩)) rfl rfl zabhoi (by rfl) ?_; (with_reducible refine (impl_OpFault_1.calls (⟨#[115]⟩ : ByteArray) t103 true _ A73.out gb104 ?sidex).mono ?_); (case sidex => exact zpjhli); rintro e w' ⟨rfl, ⟨nd, rfl⟩⟩) | ((with_reducible refine gate_thru rfl ?_); refine goesG_ rfl Tryd.func16 (by kernel_rfl) rfl #[.string (⟨#[111]⟩ : ByteArray), .pointer (some ⟨gb104, 0, none⟩)] (.pointer (some ⟨gb104, 0, none⟩)) rfl rfl zabhoi (by rfl) ?_; (with_reducible refine (impl_OpFault_1.calls (⟨#[111]⟩ : ByteArray) t103 true _ A79.out gb104 ?sidex).mono ?_); (case sidex => exact zpjhli); rintro e w' ⟨rfl, ⟨nd, rfl⟩⟩))
         go_meet
         case rel => exact ⟨_, (a0_5), zagbkp, H', ⟨zpacfg⟩, ⟨zplhch⟩, ⟨zcphad⟩, ⟨znjalk⟩⟩
        replace c80 := Bool.eq_false_iff.mpr c80
        subst c80
        rw [if_neg fT_] at H
        have H' := aa H
        clear H
        have hnb84 := NB101_104.out
        have hnc84 := NB104_101.out
        obtain ⟨hcz85_0, hcz85_1, hcz85_2, hcz85_3, hcz85_4, hcz85_5, hfz85_0, hfz85_1, hfz85_2, hfz85_3, hfz85_4, hfz85_5⟩ := blk6_ BK101.out
        go_wp2_with (first | (refine gc_ Tryd.func18 (some 17) #[.int .i64 a0_0, .int .i64 1, .int .i64 8] ?_; (with_reducible refine (impl_within.calls a0_0 1 8 true _ A9.out).mono ?_); rintro e w' ⟨rfl, ⟨nd, rfl⟩⟩; refine ⟨_, rfl, ?_⟩; have hcz86_0 : w6.cell? ⟨gb104, 0, none⟩ = some (.string (⟨#[]⟩ : ByteArray)) := (blk_cell BK104.out 0).trans rfl; have hfz86_0 := blk_frozen BK104.out 0) | ((with_reducible refine gate_thru rfl ?_); refine goesG_ rfl Tryd.func16 (by kernel_rfl) rfl #[.string (⟨#[112]⟩ : ByteArray), .pointer (some ⟨gb104, 0, none⟩)] (.pointer (some ⟨gb104, 0, none⟩)) rfl rfl zabhoi (by rfl) ?_; (with_reducible refine (impl_OpFault_1.calls (⟨#[112]⟩ : ByteArray) t103 true _ A11.out gb104 ?sidex).mono ?_); (case sidex => exact zpjhli); rintro e w' ⟨rfl, ⟨nd, rfl⟩⟩) | ((with_reducible refine gate_thru rfl ?_); refine goesG_ rfl Tryd.func16 (by kernel_rfl) rfl #[.string (⟨#[100]⟩ : ByteArray), .pointer (some ⟨gb104, 0, none⟩)] (.pointer (some ⟨gb104, 0, none⟩)) rfl rfl zabhoi (by rfl) ?_; (with_reducible refine (impl_OpFault_1.calls (⟨#[100]⟩ : ByteArray) t103 false _ A14.out gb104 ?sidex).mono ?_); (case sidex => exact zpjhli); rintro e w' ⟨rfl, ⟨nd, rfl⟩⟩) | ((with_reducible refine gate_thru rfl ?_); refine goesG_ rfl Tryd.func16 (by kernel_rfl) rfl #[.string (⟨#[118]⟩ : ByteArray), .pointer (some ⟨gb104, 0, none⟩)] (.pointer (some ⟨gb104, 0, none⟩)) rfl rfl zabhoi (by rfl) ?_; (with_reducible refine (impl_OpFault_1.calls (⟨#[118]⟩ : ByteArray) t103 true _ A70.out gb104 ?sidex).mono ?_); (case sidex => exact zpjhli); rintro e w' ⟨rfl, ⟨nd, rfl⟩⟩) | ((with_reducible refine gate_thru rfl ?_); refine goesG_ rfl Tryd.func16 (by kernel_rfl) rfl #[.string (⟨#[115]⟩ : ByteArray), .pointer (some ⟨gb104, 0, none⟩)] (.pointer (some ⟨gb104, 0, none⟩)) rfl rfl zabhoi (by rfl) ?_; (with_reducible refine (impl_OpFault_1.calls (⟨#[115]⟩ : ByteArray) t103 true _ A73.out gb104 ?sidex).mono ?_); (case sidex => exact zpjhli); rintro e w' ⟨rfl, ⟨nd, rfl⟩⟩) | ((with_reducible refine gate_thru rfl ?_); refine goesG_ rfl Tryd.func16 (by kernel_rfl) rfl #[.string (⟨#[111]⟩ : ByteArray), .pointer (some ⟨gb104, 0, none⟩)] (.pointer (some ⟨gb104, 0, none⟩)) rfl rfl zabhoi (by rfl) ?_; (with_reducible refine (impl_OpFault_1.calls (⟨#[111]⟩ : ByteArray) t103 false _ A79.out gb104 ?sidex).mono ?_); (case sidex => exact zpjhli); rintro e w' ⟨rfl, ⟨nd, rfl⟩⟩))
        go_meet
        case rel => exact ⟨_, (false), zagbkp, H', ⟨zpacfg⟩, ⟨zplhch⟩, ⟨zcphad⟩, ⟨znjalk⟩⟩
       replace c74 := Bool.eq_false_iff.mpr c74
       subst c74
       rw [if_neg fT_] at H
       revert H
       refine obs_ fun t118 A87 H => ?_
       by_cases c88 : t118 = true
       ·
        subst c88
        rw [if_pos rfl] at H
        have H' := aa H
        clear H
        have hnb89 := NB101_104.out
        have hnc89 := NB104_101.out
        obtain ⟨hcz90_0, hcz90_1, hcz90_2, hcz90_3, hcz90_4, hcz90_5, hfz90_0, hfz90_1, hfz90_2, hfz90_3, hfz90_4, hfz90_5⟩ := blk6_ BK101.out
        go_wp2_with (first | (refine gc_ Tryd.func18 (some 17) #[.int .i64 a0_0, .int .i64 1, .int .i64 8] ?_; (with_reducible refine (impl_within.calls a0_0 1 8 true _ A9.out).mono ?_); rintro e w' ⟨rfl, ⟨nd, rfl⟩⟩; refine ⟨_, rfl, ?_⟩; have hcz91_0 : w6.cell? ⟨gb104, 0, none⟩ = some (.string (⟨#[]⟩ : ByteArray)) := (blk_cell BK104.out 0).trans rfl; have hfz91_0 := blk_frozen BK104.out 0) | ((with_reducible refine gate_thru rfl ?_); refine goesG_ rfl Tryd.func16 (by kernel_rfl) rfl #[.string (⟨#[112]⟩ : ByteArray), .pointer (some ⟨gb104, 0, none⟩)] (.pointer (some ⟨gb104, 0, none⟩)) rfl rfl zabhoi (by rfl) ?_; (with_reducible refine (impl_OpFault_1.calls (⟨#[112]⟩ : ByteArray) t103 true _ A11.out gb104 ?sidex).mono ?_); (case sidex => exact zpjhli); rintro e w' ⟨rfl, ⟨nd, rfl⟩⟩) | ((with_reducible refine gate_thru rfl ?_); refine goesG_ rfl Tryd.func16 (by kernel_rfl) rfl #[.string (⟨#[100]⟩ : ByteArray), .pointer (some ⟨gb104, 0, none⟩)] (.pointer (some ⟨gb104, 0, none⟩)) rfl rfl zabhoi (by rfl) ?_; (with_reducible refine (impl_OpFault_1.calls (⟨#[100]⟩ : ByteArray) t103 false _ A14.out gb104 ?sidex).mono ?_); (case sidex => exact zpjhli); rintro e w' ⟨rfl, ⟨nd, rfl⟩⟩) | ((with_reducible refine gate_thru rfl ?_); refine goesG_ rfl Tryd.func16 (by kernel_rfl) rfl #[.string (⟨#[118]⟩ : ByteArray), .pointer (some ⟨gb104, 0, none⟩)] (.pointer (some ⟨gb104, 0, none⟩)) rfl rfl zabhoi (by rfl) ?_; (with_reducible refine (impl_OpFault_1.calls (⟨#[118]⟩ : ByteArray) t103 true _ A70.out gb104 ?sidex).mono ?_); (case sidex => exact zpjhli); rintro e w' ⟨rfl, ⟨nd, rfl⟩⟩) | ((with_reducible refine gate_thru rfl ?_); refine goesG_ rfl Tryd.func16 (by kernel_rfl) rfl #[.string (⟨#[115]⟩ : ByteArray), .pointer (some ⟨gb104, 0, none⟩)] (.pointer (some ⟨gb104, 0, none⟩)) rfl rfl zabhoi (by rfl) ?_; (with_reducible refine (impl_OpFault_1.calls (⟨#[115]⟩ : ByteArray) t103 false _ A73.out gb104 ?sidex).mono ?_); (case sidex => exact zpjhli); rintro e w' ⟨rfl, ⟨nd, rfl⟩⟩) | ((with_reducible refine gate_thru rfl ?_); refine goesG_ rfl Tryd.func16 (by kernel_rfl) rfl #[.string (⟨#[111]⟩ : ByteArray), .pointer (some ⟨gb104, 0, none⟩)] (.pointer (some ⟨gb104, 0, none⟩)) rfl rfl zabhoi (by rfl) ?_; (with_reducible refine (impl_OpFault_1.calls (⟨#[111]⟩ : ByteArray) t103 true _ A87.out gb104 ?sidex).mono ?_); (case sidex => exact zpjhli); rintro e w' ⟨rfl, ⟨nd, rfl⟩⟩))
        go_meet
        case rel => exact ⟨_, (a0_5), zagbkp, H', ⟨zpacfg⟩, ⟨zplhch⟩, ⟨zcphad⟩, ⟨znjalk⟩⟩
       replace c88 := Bool.eq_false_iff.mpr c88
       subst c88
       rw [if_neg fT_] at H
       have H' := aa H
       clear H
       have hnb92 := NB101_104.out
       have hnc92 := NB104_101.out
       obtain ⟨hcz93_0, hcz93_1, hcz93_2, hcz93_3, hcz93_4, hcz93_5, hfz93_0, hfz93_1, hfz93_2, hfz93_3, hfz93_4, hfz93_5⟩ := blk6_ BK101.out
       go_wp2_with (first | (refine gc_ Tryd.func18 (some 17) #[.int .i64 a0_0, .int .i64 1, .int .i64 8] ?_; (with_reducible refine (impl_within.calls a0_0 1 8 true _ A9.out).mono ?_); rintro e w' ⟨rfl, ⟨nd, rfl⟩⟩; refine ⟨_, rfl, ?_⟩; have hcz94_0 : w6.cell? ⟨gb104, 0, none⟩ = some (.string (⟨#[]⟩ : ByteArray)) := (blk_cell BK104.out 0).trans rfl; have hfz94_0 := blk_frozen BK104.out 0) | ((with_reducible refine gate_thru rfl ?_); refine goesG_ rfl Tryd.func16 (by kernel_rfl) rfl #[.string (⟨#[112]⟩ : ByteArray), .pointer (some ⟨gb104, 0, none⟩)] (.pointer (some ⟨gb104, 0, none⟩)) rfl rfl zabhoi (by rfl) ?_; (with_reducible refine (impl_OpFault_1.calls (⟨#[112]⟩ : ByteArray) t103 true _ A11.out gb104 ?sidex).mono ?_); (case sidex => exact zpjhli); rintro e w' ⟨rfl, ⟨nd, rfl⟩⟩) | ((with_reducible refine gate_thru rfl ?_); refine goesG_ rfl Tryd.func16 (by kernel_rfl) rfl #[.string (⟨#[100]⟩ : ByteArray), .pointer (some ⟨gb104, 0, none⟩)] (.pointer (some ⟨gb104, 0, none⟩)) rfl rfl zabhoi (by rfl) ?_; (with_reducible refine (impl_OpFault_1.calls (⟨#[100]⟩ : ByteArray) t103 false _ A14.out gb104 ?sidex).mono ?_); (case sidex => exact zpjhli); rintro e w' ⟨rfl, ⟨nd, rfl⟩⟩) | ((with_reducible refine gate_thru rfl ?_); refine goesG_ rfl Tryd.func16 (by kernel_rfl) rfl #[.string (⟨#[118]⟩ : ByteArray), .pointer (some ⟨gb104, 0, none⟩)] (.pointer (some ⟨gb104, 0, none⟩)) rfl rfl zabhoi (by rfl) ?_; (with_reducible refine (impl_OpFault_1.calls (⟨#[118]⟩ : ByteArray) t103 true _ A70.out gb104 ?sidex).mono ?_); (case sidex => exact zpjhli); rintro e w' ⟨rfl, ⟨nd, rfl⟩⟩) | ((with_reducible refine gate_thru rfl ?_); refine goesG_ rfl Tryd.func16 (by kernel_rfl) rfl #[.string (⟨#[115]⟩ : ByteArray), .pointer (some ⟨gb104, 0, none⟩)] (.pointer (some ⟨gb104, 0, none⟩)) rfl rfl zabhoi (by rfl) ?_; (with_reducible refine (impl_OpFault_1.calls (⟨#[115]⟩ : ByteArray) t103 false _ A73.out gb104 ?sidex).mono ?_); (case sidex => exact zpjhli); rintro e w' ⟨rfl, ⟨nd, rfl⟩⟩) | ((with_reducible refine gate_thru rfl ?_); refine goesG_ rfl Tryd.func16 (by kernel_rfl) rfl #[.string (⟨#[111]⟩ : ByteArray), .pointer (some ⟨gb104, 0, none⟩)] (.pointer (some ⟨gb104, 0, none⟩)) rfl rfl zabhoi (by rfl) ?_; (with_reducible refine (impl_OpFault_1.calls (⟨#[111]⟩ : ByteArray) t103 false _ A87.out gb104 ?sidex).mono ?_); (case sidex => exact zpjhli); rintro e w' ⟨rfl, ⟨nd, rfl⟩⟩))
       go_meet
       case rel => exact ⟨_, (false), zagbkp, H', ⟨zpacfg⟩, ⟨zplhch⟩, ⟨zcphad⟩, ⟨znjalk⟩⟩
      have H' := aa H
      clear H
      have hnb95 := NB101_104.out
      have hnc95 := NB104_101.out
      obtain ⟨hcz96_0, hcz96_1, hcz96_2, hcz96_3, hcz96_4, hcz96_5, hfz96_0, hfz96_1, hfz96_2, hfz96_3, hfz96_4, hfz96_5⟩ := blk6_ BK101.out
      go_wp2_with (first | (refine gc_ Tryd.func18 (some 17) #[.int .i64 a0_0, .int .i64 1, .int .i64 8] ?_; (with_reducible refine (impl_within.calls a0_0 1 8 true _ A9.out).mono ?_); rintro e w' ⟨rfl, ⟨nd, rfl⟩⟩; refine ⟨_, rfl, ?_⟩; have hcz97_0 : w6.cell? ⟨gb104, 0, none⟩ = some (.string (⟨#[]⟩ : ByteArray)) := (blk_cell BK104.out 0).trans rfl; have hfz97_0 := blk_frozen BK104.out 0) | ((with_reducible refine gate_thru rfl ?_); refine goesG_ rfl Tryd.func16 (by kernel_rfl) rfl #[.string (⟨#[112]⟩ : ByteArray), .pointer (some ⟨gb104, 0, none⟩)] (.pointer (some ⟨gb104, 0, none⟩)) rfl rfl zabhoi (by rfl) ?_; (with_reducible refine (impl_OpFault_1.calls (⟨#[112]⟩ : ByteArray) t103 true _ A11.out gb104 ?sidex).mono ?_); (case sidex => exact zpjhli); rintro e w' ⟨rfl, ⟨nd, rfl⟩⟩) | ((with_reducible refine gate_thru rfl ?_); refine goesG_ rfl Tryd.func16 (by kernel_rfl) rfl #[.string (⟨#[100]⟩ : ByteArray), .pointer (some ⟨gb104, 0, none⟩)] (.pointer (some ⟨gb104, 0, none⟩)) rfl rfl zabhoi (by rfl) ?_; (with_reducible refine (impl_OpFault_1.calls (⟨#[100]⟩ : ByteArray) t103 false _ A14.out gb104 ?sidex).mono ?_); (case sidex => exact zpjhli); rintro e w' ⟨rfl, ⟨nd, rfl⟩⟩) | ((with_reducible refine gate_thru rfl ?_); refine goesG_ rfl Tryd.func16 (by kernel_rfl) rfl #[.string (⟨#[118]⟩ : ByteArray), .pointer (some ⟨gb104, 0, none⟩)] (.pointer (some ⟨gb104, 0, none⟩)) rfl rfl zabhoi (by rfl) ?_; (with_reducible refine (impl_OpFault_1.calls (⟨#[118]⟩ : ByteArray) t103 true _ A70.out gb104 ?sidex).mono ?_); (case sidex => exact zpjhli); rintro e w' ⟨rfl, ⟨nd, rfl⟩⟩))
      go_meet
      case rel => exact ⟨_, (true), zagbkp, H', ⟨zpacfg⟩, ⟨zplhch⟩, ⟨zcphad⟩, ⟨znjalk⟩⟩
     replace c71 := Bool.eq_false_iff.mpr c71
     subst c71
     rw [if_neg fT_] at H
     revert H
     refine obs_ fun t119 A98 H => ?_
     by_cases c99 : t119 = true
     ·
      subst c99
      rw [if_pos rfl] at H
      by_cases c100 : a0_4 = true
      ·
       subst c100
       rw [if_pos rfl] at H
       have H' := aa H
       clear H
       have hnb101 := NB101_104.out
       have hnc101 := NB104_101.out
       obtain ⟨hcz102_0, hcz102_1, hcz102_2, hcz102_3, hcz102_4, hcz102_5, hfz102_0, hfz102_1, hfz102_2, hfz102_3, hfz102_4, hfz102_5⟩ := blk6_ BK101.out
       go_wp2_with (first | (refine gc_ Tryd.func18 (some 17) #[.int .i64 a0_0, .int .i64 1, .int .i64 8] ?_; (with_reducible refine (impl_within.calls a0_0 1 8 true _ A9.out).mono ?_); rintro e w' ⟨rfl, ⟨nd, rfl⟩⟩; refine ⟨_, rfl, ?_⟩; have hcz103_0 : w6.cell? ⟨gb104, 0, none⟩ = some (.string (⟨#[]⟩ : ByteArray)) := (blk_cell BK104.out 0).trans rfl; have hfz103_0 := blk_frozen BK104.out 0) | ((with_reducible refine gate_thru rfl ?_); refine goesG_ rfl Tryd.func16 (by kernel_rfl) rfl #[.string (⟨#[112]⟩ : ByteArray), .pointer (some ⟨gb104, 0, none⟩)] (.pointer (some ⟨gb104, 0, none⟩)) rfl rfl zabhoi (by rfl) ?_; (with_reducible refine (impl_OpFault_1.calls (⟨#[112]⟩ : ByteArray) t103 true _ A11.out gb104 ?sidex).mono ?_); (case sidex => exact zpjhli); rintro e w' ⟨rfl, ⟨nd, rfl⟩⟩) | ((with_reducible refine gate_thru rfl ?_); refine goesG_ rfl Tryd.func16 (by kernel_rfl) rfl #[.string (⟨#[100]⟩ : ByteArray), .pointer (some ⟨gb104, 0, none⟩)] (.pointer (some ⟨gb104, 0, none⟩)) rfl rfl zabhoi (by rfl) ?_; (with_reducible refine (impl_OpFault_1.calls (⟨#[100]⟩ : ByteArray) t103 false _ A14.out gb104 ?sidex).mono ?_); (case sidex => exact zpjhli); rintro e w' ⟨rfl, ⟨nd, rfl⟩⟩) | ((with_reducible refine gate_thru rfl ?_); refine goesG_ rfl Tryd.func16 (by kernel_rfl) rfl #[.string (⟨#[118]⟩ : ByteArray), .pointer (some ⟨gb104, 0, none⟩)] (.pointer (some ⟨gb104, 0, none⟩)) rfl rfl zabhoi (by rfl) ?_; (with_reducible refine (impl_OpFault_1.calls (⟨#[118]⟩ : ByteArray) t103 false _ A70.out gb104 ?sidex).mono ?_); (case sidex => exact zpjhli); rintro e w' ⟨rfl, ⟨nd, rfl⟩⟩) | ((with_reducible refine gate_thru rfl ?_); refine goesG_ rfl Tryd.func16 (by kernel_rfl) rfl #[.string (⟨#[115]⟩ : ByteArray), .pointer (some ⟨gb104, 0, none⟩)] (.pointer (some ⟨gb104, 0, none⟩)) rfl rfl zabhoi (by rfl) ?_; (with_reducible refine (impl_OpFault_1.calls (⟨#[115]⟩ : ByteArray) t103 true _ A98.out gb104 ?sidex).mono ?_); (case sidex => exact zpjhli); rintro e w' ⟨rfl, ⟨nd, rfl⟩⟩))
       go_meet
       case rel => exact ⟨_, (true), zagbkp, H', ⟨zpacfg⟩, ⟨zplhch⟩, ⟨zcphad⟩, ⟨znjalk⟩⟩
      replace c100 := Bool.eq_false_iff.mpr c100
      subst c100
      rw [if_neg fT_] at H
      revert H
      refine obs_ fun t120 A104 H => ?_
      by_cases c105 : t120 = true
      ·
       subst c105
       rw [if_pos rfl] at H
       have H' := aa H
       clear H
       have hnb106 := NB101_104.out
       have hnc106 := NB104_101.out
       obtain ⟨hcz107_0, hcz107_1, hcz107_2, hcz107_3, hcz107_4, hcz107_5, hfz107_0, hfz107_1, hfz107_2, hfz107_3, hfz107_4, hfz107_5⟩ := blk6_ BK101.out
       go_wp2_with (first | (refine gc_ Tryd.func18 (some 17) #[.int .i64 a0_0, .int .i64 1, .int .i64 8] ?_; (with_reducible refine (impl_within.calls a0_0 1 8 true _ A9.out).mono ?_); rintro e w' ⟨rfl, ⟨nd, rfl⟩⟩; refine ⟨_, rfl, ?_⟩; have hcz108_0 : w6.cell? ⟨gb104, 0, none⟩ = some (.string (⟨#[]⟩ : ByteArray)) := (blk_cell BK104.out 0).trans rfl; have hfz108_0 := blk_frozen BK104.out 0) | ((with_reducible refine gate_thru rfl ?_); refine goesG_ rfl Tryd.func16 (by kernel_rfl) rfl #[.string (⟨#[112]⟩ : ByteArray), .pointer (some ⟨gb104, 0, none⟩)] (.pointer (some ⟨gb104, 0, none⟩)) rfl rfl zabhoi (by rfl) ?_; (with_reducible refine (impl_OpFault_1.calls (⟨#[112]⟩ : ByteArray) t103 true _ A11.out gb104 ?sidex).mono ?_); (case sidex => exact zpjhli); rintro e w' ⟨rfl, ⟨nd, rfl⟩⟩) | ((with_reducible refine gate_thru rfl ?_); refine goesG_ rfl Tryd.func16 (by kernel_rfl) rfl #[.string (⟨#[100]⟩ : ByteArray), .pointer (some ⟨gb104, 0, none⟩)] (.pointer (some ⟨gb104, 0, none⟩)) rfl rfl zabhoi (by rfl) ?_; (with_reducible refine (impl_OpFault_1.calls (⟨#[100]⟩ : ByteArray) t103 false _ A14.out gb104 ?sidex).mono ?_); (case sidex => exact zpjhli); rintro e w' ⟨rfl, ⟨nd, rfl⟩⟩) | ((with_reducible refine gate_thru rfl ?_); refine goesG_ rfl Tryd.func16 (by kernel_rfl) rfl #[.string (⟨#[118]⟩ : ByteArray), .pointer (some ⟨gb104, 0, none⟩)] (.pointer (some ⟨gb104, 0, none⟩)) rfl rfl zabhoi (by rfl) ?_; (with_reducible refine (impl_OpFault_1.calls (⟨#[118]⟩ : ByteArray) t103 false _ A70.out gb104 ?sidex).mono ?_); (case sidex => exact zpjhli); rintro e w' ⟨rfl, ⟨nd, rfl⟩⟩) | ((with_reducible refine gate_thru rfl ?_); refine goesG_ rfl Tryd.func16 (by kernel_rfl) rfl #[.string (⟨#[115]⟩ : ByteArray), .pointer (some ⟨gb104, 0, none⟩)] (.pointer (some ⟨gb104, 0, none⟩)) rfl rfl zabhoi (by rfl) ?_; (with_reducible refine (impl_OpFault_1.calls (⟨#[115]⟩ : ByteArray) t103 true _ A98.out gb104 ?sidex).mono ?_); (case sidex => exact zpjhli); rintro e w' ⟨rfl, ⟨nd, rfl⟩⟩) | ((with_reducible refine gate_thru rfl ?_); refine goesG_ rfl Tryd.func16 (by kernel_rfl) rfl #[.string (⟨#[111]⟩ : ByteArray), .pointer (some ⟨gb104, 0, none⟩)] (.pointer (some ⟨gb104, 0, none⟩)) rfl rfl zabhoi (by rfl) ?_; (with_reducible refine (impl_OpFault_1.calls (⟨#[111]⟩ : ByteArray) t103 true _ A104.out gb104 ?sidex).mono ?_); (case sidex => exact zpjhli); rintro e w' ⟨rfl, ⟨nd, rfl⟩⟩))
       go_meet
       case rel => exact ⟨_, (a0_5), zagbkp, H', ⟨zpacfg⟩, ⟨zplhch⟩, ⟨zcphad⟩, ⟨znjalk⟩⟩
      replace c105 := Bool.eq_false_iff.mpr c105
      subst c105
      rw [if_neg fT_] at H
      have H' := aa H
      clear H
      have hnb109 := NB101_104.out
      have hnc109 := NB104_101.out
      obtain ⟨hcz110_0, hcz110_1, hcz110_2, hcz110_3, hcz110_4, hcz110_5, hfz110_0, hfz110_1, hfz110_2, hfz110_3, hfz110_4, hfz110_5⟩ := blk6_ BK101.out
      go_wp2_with (first | (refine gc_ Tryd.func18 (some 17) #[.int .i64 a0_0, .int .i64 1, .int .i64 8] ?_; (with_reducible refine (impl_within.calls a0_0 1 8 true _ A9.out).mono ?_); rintro e w' ⟨rfl, ⟨nd, rfl⟩⟩; refine ⟨_, rfl, ?_⟩; have hcz111_0 : w6.cell? ⟨gb104, 0, none⟩ = some (.string (⟨#[]⟩ : ByteArray)) := (blk_cell BK104.out 0).trans rfl; have hfz111_0 := blk_frozen BK104.out 0) | ((with_reducible refine gate_thru rfl ?_); refine goesG_ rfl Tryd.func16 (by kernel_rfl) rfl #[.string (⟨#[112]⟩ : ByteArray), .pointer (some ⟨gb104, 0, none⟩)] (.pointer (some ⟨gb104, 0, none⟩)) rfl rfl zabhoi (by rfl) ?_; (with_reducible refine (impl_OpFault_1.calls (⟨#[112]⟩ : ByteArray) t103 true _ A11.out gb104 ?sidex).mono ?_); (case sidex => exact zpjhli); rintro e w' ⟨rfl, ⟨nd, rfl⟩⟩) | ((with_reducible refine gate_thru rfl ?_); refine goesG_ rfl Tryd.func16 (by kernel_rfl) rfl #[.string (⟨#[100]⟩ : ByteArray), .pointer (some ⟨gb104, 0, none⟩)] (.pointer (some ⟨gb104, 0, none⟩)) rfl rfl zabhoi (by rfl) ?_; (with_reducible refine (impl_OpFault_1.calls (⟨#[100]⟩ : ByteArray) t103 false _ A14.out gb104 ?sidex).mono ?_); (case sidex => exact zpjhli); rintro e w' ⟨rfl, ⟨nd, rfl⟩⟩) | ((with_reducible refine gate_thru rfl ?_); refine goesG_ rfl Tryd.func16 (by kernel_rfl) rfl #[.string (⟨#[118]⟩ : ByteArray), .pointer (some ⟨gb104, 0, none⟩)] (.pointer (some ⟨gb104, 0, none⟩)) rfl rfl zabhoi (by rfl) ?_; (with_reducible refine (impl_OpFault_1.calls (⟨#[118]⟩ : ByteArray) t103 false _ A70.out gb104 ?sidex).mono ?_); (case sidex => exact zpjhli); rintro e w' ⟨rfl, ⟨nd, rfl⟩⟩) | ((with_reducible refine gate_thru rfl ?_); refine goesG_ rfl Tryd.func16 (by kernel_rfl) rfl #[.string (⟨#[115]⟩ : ByteArray), .pointer (some ⟨gb104, 0, none⟩)] (.pointer (some ⟨gb104, 0, none⟩)) rfl rfl zabhoi (by rfl) ?_; (with_reducible refine (impl_OpFault_1.calls (⟨#[115]⟩ : ByteArray) t103 true _ A98.out gb104 ?sidex).mono ?_); (case sidex => exact zpjhli); rintro e w' ⟨rfl, ⟨nd, rfl⟩⟩) | ((with_reducible refine gate_thru rfl ?_); refine goesG_ rfl Tryd.func16 (by kernel_rfl) rfl #[.string (⟨#[111]⟩ : ByteArray), .pointer (some ⟨gb104, 0, none⟩)] (.pointer (some ⟨gb104, 0, none⟩)) rfl rfl zabhoi (by rfl) ?_; (with_reducible refine (impl_OpFault_1.calls (⟨#[111]⟩ : ByteArray) t103 false _ A104.out gb104 ?sidex).mono ?_); (case sidex => exact zpjhli); rintro e w' ⟨rfl, ⟨nd, rfl⟩⟩))
      go_meet
      case rel => exact ⟨_, (false), zagbkp, H', ⟨zpacfg⟩, ⟨zplhch⟩, ⟨zcphad⟩, ⟨znjalk⟩⟩
     replace c99 := Bool.eq_false_iff.mpr c99
     subst c99
     rw [if_neg fT_] at H
     revert H
     refine obs_ fun t121 A112 H => ?_
     by_cases c113 : t121 = true
     ·
      subst c113
      rw [if_pos rfl] at H
      have H' := aa H
      clear H
      have hnb114 := NB101_104.out
      have hnc114 := NB104_101.out
      obtain ⟨hcz115_0, hcz115_1, hcz115_2, hcz115_3, hcz115_4, hcz115_5, hfz115_0, hfz115_1, hfz115_2, hfz115_3, hfz115_4, hfz115_5⟩ := blk6_ BK101.out
      go_wp2_with (first | (refine gc_ Tryd.func18 (some 17) #[.int .i64 a0_0, .int .i64 1, .int .i64 8] ?_; (with_reducible refine (impl_within.calls a0_0 1 8 true _ A9.out).mono ?_); rintro e w' ⟨rfl, ⟨nd, rfl⟩⟩; refine ⟨_, rfl, ?_⟩; have hcz116_0 : w6.cell? ⟨gb104, 0, none⟩ = some (.string (⟨#[]⟩ : ByteArray)) := (blk_cell BK104.out 0).trans rfl; have hfz116_0 := blk_frozen BK104.out 0) | ((with_reducible refine gate_thru rfl ?_); refine goesG_ rfl Tryd.func16 (by kernel_rfl) rfl #[.string (⟨#[112]⟩ : ByteArray), .pointer (some ⟨gb104, 0, none⟩)] (.pointer (some ⟨gb104, 0, none⟩)) rfl rfl zabhoi (by rfl) ?_; (with_reducible refine (impl_OpFault_1.calls (⟨#[112]⟩ : ByteArray) t103 true _ A11.out gb104 ?sidex).mono ?_); (case sidex => exact zpjhli); rintro e w' ⟨rfl, ⟨nd, rfl⟩⟩) | ((with_reducible refine gate_thru rfl ?_); refine goesG_ rfl Tryd.func16 (by kernel_rfl) rfl #[.string (⟨#[100]⟩ : ByteArray), .pointer (some ⟨gb104, 0, none⟩)] (.pointer (some ⟨gb104, 0, none⟩)) rfl rfl zabhoi (by rfl) ?_; (with_reducible refine (impl_OpFault_1.calls (⟨#[100]⟩ : ByteArray) t103 false _ A14.out gb104 ?sidex).mono ?_); (case sidex => exact zpjhli); rintro e w' ⟨rfl, ⟨nd, rfl⟩⟩) | ((with_reducible refine gate_thru rfl ?_); refine goesG_ rfl Tryd.func16 (by kernel_rfl) rfl #[.string (⟨#[118]⟩ : ByteArray), .pointer (some ⟨gb104, 0, none⟩)] (.pointer (some ⟨gb104, 0, none⟩)) rfl rfl zabhoi (by rfl) ?_; (with_reducible refine (impl_OpFault_1.calls (⟨#[118]⟩ : ByteArray) t103 false _ A70.out gb104 ?sidex).mono ?_); (case sidex => exact zpjhli); rintro e w' ⟨rfl, ⟨nd, rfl⟩⟩) | ((with_reducible refine gate_thru rfl ?_); refine goesG_ rfl Tryd.func16 (by kernel_rfl) rfl #[.string (⟨#[115]⟩ : ByteArray), .pointer (some ⟨gb104, 0, none⟩)] (.pointer (some ⟨gb104, 0, none⟩)) rfl rfl zabhoi (by rfl) ?_; (with_reducible refine (impl_OpFault_1.calls (⟨#[115]⟩ : ByteArray) t103 false _ A98.out gb104 ?sidex).mono ?_); (case sidex => exact zpjhli); rintro e w' ⟨rfl, ⟨nd, rfl⟩⟩) | ((with_reducible refine gate_thru rfl ?_); refine goesG_ rfl Tryd.func16 (by kernel_rfl) rfl #[.string (⟨#[111]⟩ : ByteArray), .pointer (some ⟨gb104, 0, none⟩)] (.pointer (some ⟨gb104, 0, none⟩)) rfl rfl zabhoi (by rfl) ?_; (with_reducible refine (impl_OpFault_1.calls (⟨#[111]⟩ : ByteArray) t103 true _ A112.out gb104 ?sidex).mono ?_); (case sidex => exact zpjhli); rintro e w' ⟨rfl, ⟨nd, rfl⟩⟩))
      go_meet
      case rel => exact ⟨_, (a0_5), zagbkp, H', ⟨zpacfg⟩, ⟨zplhch⟩, ⟨zcphad⟩, ⟨znjalk⟩⟩
     replace c113 := Bool.eq_false_iff.mpr c113
     subst c113
     rw [if_neg fT_] at H
     have H' := aa H
     clear H
     have hnb117 := NB101_104.out
     have hnc117 := NB104_101.out
     obtain ⟨hcz118_0, hcz118_1, hcz118_2, hcz118_3, hcz118_4, hcz118_5, hfz118_0, hfz118_1, hfz118_2, hfz118_3, hfz118_4, hfz118_5⟩ := blk6_ BK101.out
     go_wp2_with (first | (refine gc_ Tryd.func18 (some 17) #[.int .i64 a0_0, .int .i64 1, .int .i64 8] ?_; (with_reducible refine (impl_within.calls a0_0 1 8 true _ A9.out).mono ?_); rintro e w' ⟨rfl, ⟨nd, rfl⟩⟩; refine ⟨_, rfl, ?_⟩; have hcz119_0 : w6.cell? ⟨gb104, 0, none⟩ = some (.string (⟨#[]⟩ : ByteArray)) := (blk_cell BK104.out 0).trans rfl; have hfz119_0 := blk_frozen BK104.out 0) | ((with_reducible refine gate_thru rfl ?_); refine goesG_ rfl Tryd.func16 (by kernel_rfl) rfl #[.string (⟨#[112]⟩ : ByteArray), .pointer (some ⟨gb104, 0, none⟩)] (.pointer (some ⟨gb104, 0, none⟩)) rfl rfl zabhoi (by rfl) ?_; (with_reducible refine (impl_OpFault_1.calls (⟨#[112]⟩ : ByteArray) t103 true _ A11.out gb104 ?sidex).mono ?_); (case sidex => exact zpjhli); rintro e w' ⟨rfl, ⟨nd, rfl⟩⟩) | ((with_reducible refine gate_thru rfl ?_); refine goesG_ rfl Tryd.func16 (by kernel_rfl) rfl #[.string (⟨#[100]⟩ : ByteArray), .pointer (some ⟨gb104, 0, none⟩)] (.pointer (some ⟨gb104, 0, none⟩)) rfl rfl zabhoi (by rfl) ?_; (with_reducible refine (impl_OpFault_1.calls (⟨#[100]⟩ : ByteArray) t103 false _ A14.out gb104 ?sidex).mono ?_); (case sidex => exact zpjhli); rintro e w' ⟨rfl, ⟨nd, rfl⟩⟩) | ((with_reducible refine gate_thru rfl ?_); refine goesG_ rfl Tryd.func16 (by kernel_rfl) rfl #[.string (⟨#[118]⟩ : ByteArray), .pointer (some ⟨gb104, 0, none⟩)] (.pointer (some ⟨gb104, 0, none⟩)) rfl rfl zabhoi (by rfl) ?_; (with_reducible refine (impl_OpFault_1.calls (⟨#[118]⟩ : ByteArray) t103 false _ A70.out gb104 ?sidex).mono ?_); (case sidex => exact zpjhli); rintro e w' ⟨rfl, ⟨nd, rfl⟩⟩) | ((with_reducible refine gate_thru rfl ?_); refine goesG_ rfl Tryd.func16 (by kernel_rfl) rfl #[.string (⟨#[115]⟩ : ByteArray), .pointer (some ⟨gb104, 0, none⟩)] (.pointer (some ⟨gb104, 0, none⟩)) rfl rfl zabhoi (by rfl) ?_; (with_reducible refine (impl_OpFault_1.calls (⟨#[115]⟩ : ByteArray) t103 false _ A98.out gb104 ?sidex).mono ?_); (case sidex => exact zpjhli); rintro e w' ⟨rfl, ⟨nd, rfl⟩⟩) | ((with_reducible refine gate_thru rfl ?_); refine goesG_ rfl Tryd.func16 (by kernel_rfl) rfl #[.string (⟨#[111]⟩ : ByteArray), .pointer (some ⟨gb104, 0, none⟩)] (.pointer (some ⟨gb104, 0, none⟩)) rfl rfl zabhoi (by rfl) ?_; (with_reducible refine (impl_OpFault_1.calls (⟨#[111]⟩ : ByteArray) t103 false _ A112.out gb104 ?sidex).mono ?_); (case sidex => exact zpjhli); rintro e w' ⟨rfl, ⟨nd, rfl⟩⟩))
     go_meet
     case rel => exact ⟨_, (false), zagbkp, H', ⟨zpacfg⟩, ⟨zplhch⟩, ⟨zcphad⟩, ⟨znjalk⟩⟩
    (first | rw [c13b0] | (simp only [i64_w, i32_w]; rw [c13b0]) | (simp only [c13b2, Bool.not_false, Bool.not_true]) | skip)
    have H' := aa H
    clear H
    have hnb120 := NB101_104.out
    have hnc120 := NB104_101.out
    obtain ⟨hcz121_0, hcz121_1, hcz121_2, hcz121_3, hcz121_4, hcz121_5, hfz121_0, hfz121_1, hfz121_2, hfz121_3, hfz121_4, hfz121_5⟩ := blk6_ BK101.out
    go_wp2_with (first | (refine gc_ Tryd.func18 (some 17) #[.int .i64 a0_0, .int .i64 1, .int .i64 8] ?_; (with_reducible refine (impl_within.calls a0_0 1 8 true _ A9.out).mono ?_); rintro e w' ⟨rfl, ⟨nd, rfl⟩⟩; refine ⟨_, rfl, ?_⟩; have hcz122_0 : w6.cell? ⟨gb104, 0, none⟩ = some (.string (⟨#[]⟩ : ByteArray)) := (blk_cell BK104.out 0).trans rfl; have hfz122_0 := blk_frozen BK104.out 0) | ((with_reducible refine gate_thru rfl ?_); refine goesG_ rfl Tryd.func16 (by kernel_rfl) rfl #[.string (⟨#[112]⟩ : ByteArray), .pointer (some ⟨gb104, 0, none⟩)] (.pointer (some ⟨gb104, 0, none⟩)) rfl rfl zabhoi (by rfl) ?_; (with_reducible refine (impl_OpFault_1.calls (⟨#[112]⟩ : ByteArray) t103 true _ A11.out gb104 ?sidex).mono ?_); (case sidex => exact zpjhli); rintro e w' ⟨rfl, ⟨nd, rfl⟩⟩))
    go_meet
    case rel => exact ⟨_, (true), zagbkp, H', ⟨zpacfg⟩, ⟨zplhch⟩, ⟨zcphad⟩, ⟨znjalk⟩⟩
   replace c12 := Bool.eq_false_iff.mpr c12
   subst c12
   rw [if_neg fT_] at H
   revert H
   refine obs_ fun t122 A123 H => ?_
   by_cases c124 : t122 = true
   ·
    subst c124
    rw [if_pos rfl] at H
    revert H
    refine itE_ (fun c125b0 c125b1 H => ?_) fun c125b0 c125b1 H => ?_
    ·
     revert H
     refine obs_ fun t123 A126 H => ?_
     by_cases c127 : t123 = true
     ·
      subst c127
      rw [if_pos rfl] at H
      revert H
      refine itE_ (fun c128b0 c128b1 H => ?_) fun c128b0 c128b1 H => ?_
      ·
       revert H
       refine obs_ fun t124 A129 H => ?_
       by_cases c130 : t124 = true
       ·
        subst c130
        rw [if_pos rfl] at H
        by_cases c131 : a0_4 = true
        ·
         subst c131
         rw [if_pos rfl] at H
         have H' := aa H
         clear H
         have hnb132 := NB101_104.out
         have hnc132 := NB104_101.out
         obtain ⟨hcz133_0, hcz133_1, hcz133_2, hcz133_3, hcz133_4, hcz133_5, hfz133_0, hfz133_1, hfz133_2, hfz133_3, hfz133_4, hfz133_5⟩ := blk6_ BK101.out
         go_wp2_with (first | (refine gc_ Tryd.func18 (some 17) #[.int .i64 a0_0, .int .i64 1, .int .i64 8] ?_; (with_reducible refine (impl_within.calls a0_0 1 8 true _ A9.out).mono ?_); rintro e w' ⟨rfl, ⟨nd, rfl⟩⟩; refine ⟨_, rfl, ?_⟩; have hcz134_0 : w6.cell? ⟨gb104, 0, none⟩ = some (.string (⟨#[]⟩ : ByteArray)) := (blk_cell BK104.out 0).trans rfl; have hfz134_0 := blk_frozen BK104.out 0) | ((with_reducible refine gate_thru rfl ?_); refine goesG_ rfl Tryd.func16 (by kernel_rfl) rfl #[.string (⟨#[112]⟩ : ByteArray), .pointer (some ⟨gb104, 0, none⟩)] (.pointer (some ⟨gb104, 0, none⟩)) rfl rfl zabhoi (by rfl) ?_; (with_reducible refine (impl_OpFault_1.calls (⟨#[112]⟩ : ByteArray) t103 false _ A11.out gb104 ?sidex).mono ?_); (case sidex => exact zpjhli); rintro e w' ⟨rfl, ⟨nd, rfl⟩⟩) | ((with_reducible refine gate_thru rfl ?_); refine goesG_ rfl Tryd.func16 (by kernel_rfl) rfl #[.string (⟨#[100]⟩ : ByteArray), .pointer (some ⟨gb104, 0, none⟩)] (.pointer (some ⟨gb104, 0, none⟩)) rfl rfl zabhoi (by rfl) ?_; (with_reducible refine (impl_OpFault_1.calls (⟨#[100]⟩ : ByteArray) t103 true _ A123.out gb104 ?sidex).mono ?_); (case sidex => exact zpjhli); rintro e w' ⟨rfl, ⟨nd, rfl⟩⟩) | ((with_reducible refine gate_thru rfl ?_); refine goesG_ rfl Tryd.func16 (by kernel_rfl) rfl #[.string (⟨#[118]⟩ : ByteArray), .pointer (some ⟨gb104, 0, none⟩)] (.pointer (some ⟨gb104, 0, none⟩)) rfl rfl zabhoi (by rfl) ?_; (with_reducible refine (impl_OpFault_1.calls (⟨#[118]⟩ : ByteArray) t103 true _ A126.out gb104 ?sidex).mono ?_); (case sidex => exact zpjhli); rintro e w' ⟨rfl, ⟨nd, rfl⟩⟩) | ((with_reducible refine gate_thru rfl ?_); refine goesG_ rfl Tryd.func16 (by kernel_rfl) rfl #[.string (⟨#[115]⟩ : ByteArray), .pointer (some ⟨gb104, 0, none⟩)] (.pointer (some ⟨gb104, 0, none⟩)) rfl rfl zabhoi (by rfl) ?_; (with_reducible refine (impl_OpFault_1.calls (⟨#[115]⟩ : ByteArray) t103 true _ A129.out gb104 ?sidex).mono ?_); (case sidex => exact zpjhli); rintro e w' ⟨rfl, ⟨nd, rfl⟩⟩))
         go_meet
         case rel => exact ⟨_, (true), zagbkp, H', ⟨zpacfg⟩, ⟨zplhch⟩, ⟨zcphad⟩, ⟨znjalk⟩⟩
        replace c131 := Bool.eq_false_iff.mpr c131
        subst c131
        rw [if_neg fT_] at H
        revert H
        refine obs_ fun t125 A135 H => ?_
        by_cases c136 : t125 = true
        ·
         subst c136
         rw [if_pos rfl] at H
         have H' := aa H
         clear H
         have hnb137 := NB101_104.out
         have hnc137 := NB104_101.out
         obtain ⟨hcz138_0, hcz138_1, hcz138_2, hcz138_3, hcz138_4, hcz138_5, hfz138_0, hfz138_1, hfz138_2, hfz138_3, hfz138_4, hfz138_5⟩ := blk6_ BK101.out
         go_wp2_with (first | (refine gc_ Tryd.func18 (some 17) #[.int .i64 a0_0, .int .i64 1, .int .i64 8] ?_; (with_reducible refine (impl_within.calls a0_0 1 8 true _ A9.out).mono ?_); rintro e w' ⟨rfl, ⟨nd, rfl⟩⟩; refine ⟨_, rfl, ?_⟩; have hcz139_0 : w6.cell? ⟨gb104, 0, none⟩ = some (.string (⟨#[]⟩ : ByteArray)) := (blk_cell BK104.out 0).trans rfl; have hfz139_0 := blk_frozen BK104.out 0) | ((with_reducible refine gate_thru rfl ?_); refine goesG_ rfl Tryd.func16 (by kernel_rfl) rfl #[.string (⟨#[112]⟩ : ByteArray), .pointer (some ⟨gb104, 0, none⟩)] (.pointer (some ⟨gb104, 0, none⟩)) rfl rfl zabhoi (by rfl) ?_; (with_reducible refine (impl_OpFault_1.calls (⟨#[112]⟩ : ByteArray) t103 false _ A11.out gb104 ?sidex).mono ?_); (case sidex => exact zpjhli); rintro e w' ⟨rfl, ⟨nd, rfl⟩⟩) | ((with_reducible refine gate_thru rfl ?_); refine goesG_ rfl Tryd.func16 (by kernel_rfl) rfl #[.string (⟨#[100]⟩ : ByteArray), .pointer (some ⟨gb104, 0, none⟩)] (.pointer (some ⟨gb104, 0, none⟩)) rfl rfl zabhoi (by rfl) ?_; (with_reducible refine (impl_OpFault_1.calls (⟨#[100]⟩ : ByteArray) t103 true _ A123.out gb104 ?sidex).mono ?_); (case sidex => exact zpjhli); rintro e w' ⟨rfl, ⟨nd, rfl⟩⟩) | ((with_reducible refine gate_thru rfl ?_); refine goesG_ rfl Tryd.func16 (by kernel_rfl) rfl #[.string (⟨#[118]⟩ : ByteArray), .pointer (some ⟨gb104, 0, none⟩)] (.pointer (some ⟨gb104, 0, none⟩)) rfl rfl zabhoi (by rfl) ?_; (with_reducible refine (impl_OpFault_1.calls (⟨#[118]⟩ : ByteArray) t103 true _ A126.out gb104 ?sidex).mono ?_); (case sidex => exact zpjhli); rintro e w' ⟨rfl, ⟨nd, rfl⟩⟩) | ((with_reducible refine gate_thru rfl ?_); refine goesG_ rfl Tryd.func16 (by kernel_rfl) rfl #[.string (⟨#[115]⟩ : ByteArray), .pointer (some ⟨gb104, 0, none⟩)] (.pointer (some ⟨gb104, 0, none⟩)) rfl rfl zabhoi (by rfl) ?_; (with_reducible refine (impl_OpFault_1.calls (⟨#[115]⟩ : ByteArray) t103 true _ A129.out gb104 ?sidex).mono ?_); (case sidex => exact zpjhli); rintro e w' ⟨rfl, ⟨nd, rfl⟩⟩) | ((with_reducible refine gate_thru rfl ?_); refine goesG_ rfl Tryd.func16 (by kernel_rfl) rfl #[.string (⟨#[111]⟩ : ByteArray), .pointer (some ⟨gb104, 0, none⟩)] (.pointer (some ⟨gb104, 0, none⟩)) rfl rfl zabhoi (by rfl) ?_; (with_reducible refine (impl_OpFault_1.calls (⟨#[111]⟩ : ByteArray) t103 true _ A135.out gb104 ?sidex).mono ?_); (case sidex => exact zpjhli); rintro e w' ⟨rfl, ⟨nd, rfl⟩⟩))
         go_meet
         case rel => exact ⟨_, (a0_5), zagbkp, H', ⟨zpacfg⟩, ⟨zplhch⟩, ⟨zcphad⟩, ⟨znjalk⟩⟩
        replace c136 := Bool.eq_false_iff.mpr c136
        subst c136
        rw [if_neg fT_] at H
        have H' := aa H
        clear H
        have hnb140 := NB101_104.out
        have hnc140 := NB104_101.out
        obtain ⟨hcz141_0, hcz141_1, hcz141_2, hcz141_3, hcz141_4, hcz141_5, hfz141_0, hfz141_1, hfz141_2, hfz141_3, hfz141_4, hfz141_5⟩ := blk6_ BK101.out
        go_wp2_with (first | (refine gc_ Tryd.func18 (some 17) #[.int .i64 a0_0, .int .i64 1, .int .i64 8] ?_; (with_reducible refine (impl_within.calls a0_0 1 8 true _ A9.out).mono ?_); rintro e w' ⟨rfl, ⟨nd, rfl⟩⟩; refine ⟨_, rfl, ?_⟩; have hcz142_0 : w6.cell? ⟨gb104, 0, none⟩ = some (.string (⟨#[]⟩ : ByteArray)) := (blk_cell BK104.out 0).trans rfl; have hfz142_0 := blk_frozen BK104.out 0) | ((with_reducible refine gate_thru rfl ?_); refine goesG_ rfl Tryd.func16 (by kernel_rfl) rfl #[.string (⟨#[112]⟩ : ByteArray), .pointer (some ⟨gb104, 0, none⟩)] (.pointer (some ⟨gb104, 0, none⟩)) rfl rfl zabhoi (by rfl) ?_; (with_reducible refine (impl_OpFault_1.calls (⟨#[112]⟩ : ByteArray) t103 false _ A11.out gb104 ?sidex).mono ?_); (case sidex => exact zpjhli); rintro e w' ⟨rfl, ⟨nd, rfl⟩⟩) | ((with_reducible refine gate_thru rfl ?_); refine goesG_ rfl Tryd.func16 (by kernel_rfl) rfl #[.string (⟨#[100]⟩ : ByteArray), .pointer (some ⟨gb104, 0, none⟩)] (.pointer (some ⟨gb104, 0, none⟩)) rfl rfl zabhoi (by rfl) ?_; (with_reducible refine (impl_OpFault_1.calls (⟨#[100]⟩ : ByteArray) t103 true _ A123.out gb104 ?sidex).mono ?_); (case sidex => exact zpjhli); rintro e w' ⟨rfl, ⟨nd, rfl⟩⟩) | ((with_reducible refine gate_thru rfl ?_); refine goesG_ rfl Tryd.func16 (by kernel_rfl) rfl #[.string (⟨#[118]⟩ : ByteArray), .pointer (some ⟨gb104, 0, none⟩)] (.pointer (some ⟨gb104, 0, none⟩)) rfl rfl zabhoi (by rfl) ?_; (with_reducible refine (impl_OpFault_1.calls (⟨#[118]⟩ : ByteArray) t103 true _ A126.out gb104 ?sidex).mono ?_); (case sidex => exact zpjhli); rintro e w' ⟨rfl, ⟨nd, rfl⟩⟩) | ((with_reducible refine gate_thru rfl ?_); refine goesG_ rfl Tryd.func16 (by kernel_rfl) rfl #[.string (⟨#[115]⟩ : ByteArray), .pointer (some ⟨gb104, 0, none⟩)] (.pointer (some ⟨gb104, 0, none⟩)) rfl rfl zabhoi (by rfl) ?_; (with_reducible refine (impl_OpFault_1.calls (⟨#[115]⟩ : ByteArray) t103 true _ A129.out gb104 ?sidex).mono ?_); (case sidex => exact zpjhli); rintro e w' ⟨rfl, ⟨nd, rfl⟩⟩) | ((with_reducible refine gate_thru rfl ?_); refine goesG_ rfl Tryd.func16 (by kernel_rfl) rfl #[.string (⟨#[111]⟩ : ByteArray), .pointer (some ⟨gb104, 0, none⟩)] (.pointer (some ⟨gb104, 0, none⟩)) rfl rfl zabhoi (by rfl) ?_; (with_reducible refine (impl_OpFault_1.calls (⟨#[111]⟩ : ByteArray) t103 false _ A135.out gb104 ?sidex).mono ?_); (case sidex => exact zpjhli); rintro e w' ⟨rfl, ⟨nd, rfl⟩⟩))
        go_meet
        case rel => exact ⟨_, (false), zagbkp, H', ⟨zpacfg⟩, ⟨zplhch⟩, ⟨zcphad⟩, ⟨znjalk⟩⟩
       replace c130 := Bool.eq_false_iff.mpr c130
       subst c130
       rw [if_neg fT_] at H
       revert H
       refine obs_ fun t126 A143 H => ?_
       by_cases c144 : t126 = true
       ·
        subst c144
        rw [if_pos rfl] at H
        have H' := aa H
        clear H
        have hnb145 := NB101_104.out
        have hnc145 := NB104_101.out
        obtain ⟨hcz146_0, hcz146_1, hcz146_2, hcz146_3, hcz146_4, hcz146_5, hfz146_0, hfz146_1, hfz146_2, hfz146_3, hfz146_4, hfz146_5⟩ := blk6_ BK101.out
        go_wp2_with (first | (refine gc_ Tryd.func18 (some 17) #[.int .i64 a0_0, .int .i64 1, .int .i64 8] ?_; (with_reducible refine (impl_within.calls a0_0 1 8 true _ A9.out).mono ?_); rintro e w' ⟨rfl, ⟨nd, rfl⟩⟩; refine ⟨_, rfl, ?_⟩; have hcz147_0 : w6.cell? ⟨gb104, 0, none⟩ = some (.string (⟨#[]⟩ : ByteArray)) := (blk_cell BK104.out 0).trans rfl; have hfz147_0 := blk_frozen BK104.out 0) | ((with_reducible refine gate_thru rfl ?_); refine goesG_ rfl Tryd.func16 (by kernel_rfl) rfl #[.string (⟨#[112]⟩ : ByteArray), .pointer (some ⟨gb104, 0, none⟩)] (.pointer (some ⟨gb104, 0, none⟩)) rfl rfl zabhoi (by rfl) ?_; (with_reducible refine (impl_OpFault_1.calls (⟨#[112]⟩ : ByteArray) t103 false _ A11.out gb104 ?sidex).mono ?_); (case sidex => exact zpjhli); rintro e w' ⟨rfl, ⟨nd, rfl⟩⟩) | ((with_reducible refine gate_thru rfl ?_); refine goesG_ rfl Tryd.func16 (by kernel_rfl) rfl #[.string (⟨#[100]⟩ : ByteArray), .pointer (some ⟨gb104, 0, none⟩)] (.pointer (some ⟨gb104, 0, none⟩)) rfl rfl zabhoi (by rfl) ?_; (with_reducible refine (impl_OpFault_1.calls (⟨#[100]⟩ : ByteArray) t103 true _ A123.out gb104 ?sidex).mono ?_); (case sidex => exact zpjhli); rintro e w' ⟨rfl, ⟨nd, rfl⟩⟩) | ((with_reducible refine gate_thru rfl ?_); refine goesG_ rfl Tryd.func16 (by kernel_rfl) rfl #[.string (⟨#[118]⟩ : ByteArray), .pointer (some ⟨gb104, 0, none⟩)] (.pointer (some ⟨gb104, 0, none⟩)) rfl rfl zabhoi (by rfl) ?_; (with_reducible refine (impl_OpFault_1.calls (⟨#[118]⟩ : ByteArray) t103 true _ A126.out gb104 ?sidex).mono ?_); (case sidex => exact zpjhli); rintro e w' ⟨rfl, ⟨nd, rfl⟩⟩) | ((with_reducible refine gate_thru rfl ?_); refine goesG_ rfl Tryd.func16 (by kernel_rfl) rfl #[.string (⟨#[115]⟩ : ByteArray), .pointer (some ⟨gb104, 0, none⟩)] (.pointer (some ⟨gb104, 0, none⟩)) rfl rfl zabhoi (by rfl) ?_; (with_reducible refine (impl_OpFault_1.calls (⟨#[115]⟩ : ByteArray) t103 false _ A129.out gb104 ?sidex).mono ?_); (case sidex => exact zpjhli); rintro e w' ⟨rfl, ⟨nd, rfl⟩⟩) | ((with_reducible refine gate_thru rfl ?_); refine goesG_ rfl Tryd.func16 (by kernel_rfl) rfl #[.string (⟨#[111]⟩ : ByteArray), .pointer (some ⟨gb104, 0, none⟩)] (.pointer (some ⟨gb104, 0, none⟩)) rfl rfl zabhoi (by rfl) ?_; (with_reducible refine (impl_OpFault_1.calls (⟨#[111]⟩ : ByteArray) t103 true _ A143.out gb104 ?sidex).mono ?_); (case sidex => exact zpjhli); rintro e w' ⟨rfl, ⟨nd, rfl⟩⟩))
        go_meet
        case rel => exact ⟨_, (a0_5), zagbkp, H', ⟨zpacfg⟩, ⟨zplhch⟩, ⟨zcphad⟩, ⟨znjalk⟩⟩
       replace c144 := Bool.eq_false_iff.mpr c144
       subst c144
       rw [if_neg fT_] at H
       have H' := aa H
       clear H
       have hnb148 := NB101_104.out
       have hnc148 := NB104_101.out
       obtain ⟨hcz149_0, hcz149_1, hcz149_2, hcz149_3, hcz149_4, hcz149_5, hfz149_0, hfz149_1, hfz149_2, hfz149_3, hfz149_4, hfz149_5⟩ := blk6_ BK101.out
       go_wp2_with (first | (refine gc_ Tryd.func18 (some 17) #[.int .i64 a0_0, .int .i64 1, .int .i64 8] ?_; (with_reducible refine (impl_within.calls a0_0 1 8 true _ A9.out).mono ?_); rintro e w' ⟨rfl, ⟨nd, rfl⟩⟩; refine ⟨_, rfl, ?_⟩; have hcz150_0 : w6.cell? ⟨gb104, 0, none⟩ = some (.string (⟨#[]⟩ : ByteArray)) := (blk_cell BK104.out 0).trans rfl; have hfz150_0 := blk_frozen BK104.out 0) | ((with_reducible refine gate_thru rfl ?_); refine goesG_ rfl Tryd.func16 (by kernel_rfl) rfl #[.string (⟨#[112]⟩ : ByteArray), .pointer (some ⟨gb104, 0, none⟩)] (.pointer (some ⟨gb104, 0, none⟩)) rfl rfl zabhoi (by rfl) ?_; (with_reducible refine (impl_OpFault_1.calls (⟨#[112]⟩ : ByteArray) t103 false _ A11.out gb104 ?sidex).mono ?_); (case sidex => exact zpjhli); rintro e w' ⟨rfl, ⟨nd, rfl⟩⟩) | ((with_reducible refine gate_thru rfl ?_); refine goesG_ rfl Tryd.func16 (by kernel_rfl) rfl #[.string (⟨#[100]⟩ : ByteArray), .pointer (some ⟨gb104, 0, none⟩)] (.pointer (some ⟨gb104, 0, none⟩)) rfl rfl zabhoi (by rfl) ?_; (with_reducible refine (impl_OpFault_1.calls (⟨#[100]⟩ : ByteArray) t103 true _ A123.out gb104 ?sidex).mono ?_); (case sidex => exact zpjhli); rintro e w' ⟨rfl, ⟨nd, rfl⟩⟩) | ((with_reducible refine gate_thru rfl ?_); refine goesG_ rfl Tryd.func16 (by kernel_rfl) rfl #[.string (⟨#[118]⟩ : ByteArray), .pointer (some ⟨gb104, 0, none⟩)] (.pointer (some ⟨gb104, 0, none⟩)) rfl rfl zabhoi (by rfl) ?_; (with_reducible refine (impl_OpFault_1.calls (⟨#[118]⟩ : ByteArray) t103 true _ A126.out gb104 ?sidex).mono ?_); (case sidex => exact zpjhli); rintro e w' ⟨rfl, ⟨nd, rfl⟩⟩) | ((with_reducible refine gate_thru rfl ?_); refine goesG_ rfl Tryd.func16 (by kernel_rfl) rfl #[.string (⟨#[115]⟩ : ByteArray), .pointer (some ⟨gb104, 0, none⟩)] (.pointer (some ⟨gb104, 0, none⟩)) rfl rfl zabhoi (by rfl) ?_; (with_reducible refine (impl_OpFault_1.calls (⟨#[115]⟩ : ByteArray) t103 false _ A129.out gb104 ?sidex).mono ?_); (case sidex => exact zpjhli); rintro e w' ⟨rfl, ⟨nd, rfl⟩⟩) | ((with_reducible refine gate_thru rfl ?_); refine goesG_ rfl Tryd.func16 (by kernel_rfl) rfl #[.string (⟨#[111]⟩ : ByteArray), .pointer (some ⟨gb104, 0, none⟩)] (.pointer (some ⟨gb104, 0, none⟩)) rfl rfl zabhoi (by rfl) ?_; (with_reducible refine (impl_OpFault_1.calls (⟨#[111]⟩ : ByteArray) t103 false _ A143.out gb104 ?sidex).mono ?_); (case sidex => exact zpjhli); rintro e w' ⟨rfl, ⟨nd, rfl⟩⟩))
       go_meet
       case rel => exact ⟨_, (false), zagbkp, H', ⟨zpacfg⟩, ⟨zplhch⟩, ⟨zcphad⟩, ⟨znjalk⟩⟩
      have H' := aa H
      clear H
      have hnb151 := NB101_104.out
      have hnc151 := NB104_101.out
      obtain ⟨hcz152_0, hcz152_1, hcz152_2, hcz152_3, hcz152_4, hcz152_5, hfz152_0, hfz152_1, hfz152_2, hfz152_3, hfz152_4, hfz152_5⟩ := blk6_ BK101.out
      go_wp2_with (first | (refine gc_ Tryd.func18 (some 17) #[.int .i64 a0_0, .int .i64 1, .int .i64 8] ?_; (with_reducible refine (impl_within.calls a0_0 1 8 true _ A9.out).mono ?_); rintro e w' ⟨rfl, ⟨nd, rfl⟩⟩; refine ⟨_, rfl, ?_⟩; have hcz153_0 : w6.cell? ⟨gb104, 0, none⟩ = some (.string (⟨#[]⟩ : ByteArray)) := (blk_cell BK104.out 0).trans rfl; have hfz153_0 := blk_frozen BK104.out 0) | ((with_reducible refine gate_thru rfl ?_); refine goesG_ rfl Tryd.func16 (by kernel_rfl) rfl #[.string (⟨#[112]⟩ : ByteArray), .pointer (some ⟨gb104, 0, none⟩)] (.pointer (some ⟨gb104, 0, none⟩)) rfl rfl zabhoi (by rfl) ?_; (with_reducible refine (impl_OpFault_1.calls (⟨#[112]⟩ : ByteArray) t103 false _ A11.out gb104 ?sidex).mono ?_); (case sidex => exact zpjhli); rintro e w' ⟨rfl, ⟨nd, rfl⟩⟩) | ((with_reducible refine gate_thru rfl ?_); refine goesG_ rfl Tryd.func16 (by kernel_rfl) rfl #[.string (⟨#[100]⟩ : ByteArray), .pointer (some ⟨gb104, 0, none⟩)] (.pointer (some ⟨gb104, 0, none⟩)) rfl rfl zabhoi (by rfl) ?_; (with_reducible refine (impl_OpFault_1.calls (⟨#[100]⟩ : ByteArray) t103 true _ A123.out gb104 ?sidex).mono ?_); (case sidex => exact zpjhli); rintro e w' ⟨rfl, ⟨nd, rfl⟩⟩) | ((with_reducible refine gate_thru rfl ?_); refine goesG_ rfl Tryd.func16 (by kernel_rfl) rfl #[.string (⟨#[118]⟩ : ByteArray), .pointer (some ⟨gb104, 0, none⟩)] (.pointer (some ⟨gb104, 0, none⟩)) rfl rfl zabhoi (by rfl) ?_; (with_reducible refine (impl_OpFault_1.calls (⟨#[118]⟩ : ByteArray) t103 true _ A126.out gb104 ?sidex).mono ?_); (case sidex => exact zpjhli); rintro e w' ⟨rfl, ⟨nd, rfl⟩⟩))
      go_meet
      case rel => exact ⟨_, (true), zagbkp, H', ⟨zpacfg⟩, ⟨zplhch⟩, ⟨zcphad⟩, ⟨znjalk⟩⟩
     replace c127 := Bool.eq_false_iff.mpr c127
     subst c127
     rw [if_neg fT_] at H
     revert H
     refine obs_ fun t127 A154 H => ?_
     by_cases c155 : t127 = true
     ·
      subst c155
      rw [if_pos rfl] at H
      by_cases c156 : a0_4 = true
      ·
       subst c156
       rw [if_pos rfl] at H
       have H' := aa H
       clear H
       have hnb157 := NB101_104.out
       have hnc157 := NB104_101.out
       obtain ⟨hcz158_0, hcz158_1, hcz158_2, hcz158_3, hcz158_4, hcz158_5, hfz158_0, hfz158_1, hfz158_2, hfz158_3, hfz158_4, hfz158_5⟩ := blk6_ BK101.out
       go_wp2_with (first | (refine gc_ Tryd.func18 (some 17) #[.int .i64 a0_0, .int .i64 1, .int .i64 8] ?_; (with_reducible refine (impl_within.calls a0_0 1 8 true _ A9.out).mono ?_); rintro e w' ⟨rfl, ⟨nd, rfl⟩⟩; refine ⟨_, rfl, ?_⟩; have hcz159_0 : w6.cell? ⟨gb104, 0, none⟩ = some (.string (⟨#[]⟩ : ByteArray)) := (blk_cell BK104.out 0).trans rfl; have hfz159_0 := blk_frozen BK104.out 0) | ((with_reducible refine gate_thru rfl ?_); refine goesG_ rfl Tryd.func16 (by kernel_rfl) rfl #[.string (⟨#[112]⟩ : ByteArray), .pointer (some ⟨gb104, 0, none⟩)] (.pointer (some ⟨gb104, 0, none⟩)) rfl rfl zabhoi (by rfl) ?_; (with_reducible refine (impl_OpFault_1.calls (⟨#[112]⟩ : ByteArray) t103 false _ A11.out gb104 ?sidex).mono ?_); (case sidex => exact zpjhli); rintro e w' ⟨rfl, ⟨nd, rfl⟩⟩) | ((with_reducible refine gate_thru rfl ?_); refine goesG_ rfl Tryd.func16 (by kernel_rfl) rfl #[.string (⟨#[100]⟩ : ByteArray), .pointer (some ⟨gb104, 0, none⟩)] (.pointer (some ⟨gb104, 0, none⟩)) rfl rfl zabhoi (by rfl) ?_; (with_reducible refine (impl_OpFault_1.calls (⟨#[100]⟩ : ByteArray) t103 true _ A123.out gb104 ?sidex).mono ?_); (case sidex => exact zpjhli); rintro e w' ⟨rfl, ⟨nd, rfl⟩⟩) | ((with_reducible refine gate_thru rfl ?_); refine goesG_ rfl Tryd.func16 (by kernel_rfl) rfl #[.string (⟨#[118]⟩ : ByteArray), .pointer (some ⟨gb104, 0, none⟩)] (.pointer (some ⟨gb104, 0, none⟩)) rfl rfl zabhoi (by rfl) ?_; (with_reducible refine (impl_OpFault_1.calls (⟨#[118]⟩ : ByteArray) t103 false _ A126.out gb104 ?sidex).mono ?_); (case sidex => exact zpjhli); rintro e w' ⟨rfl, ⟨nd, rfl⟩⟩) | ((with_reducible refine gate_thru rfl ?_); refine goesG_ rfl Tryd.func16 (by kernel_rfl) rfl #[.string (⟨#[115]⟩ : ByteArray), .pointer (some ⟨gb104, 0, none⟩)] (.pointer (some ⟨gb104, 0, none⟩)) rfl rfl zabhoi (by rfl) ?_; (with_reducible refine (impl_OpFault_1.calls (⟨#[115]⟩ : ByteArray) t103 true _ A154.out gb104 ?sidex).mono ?_); (case sidex => exact zpjhli); rintro e w' ⟨rfl, ⟨nd, rfl⟩⟩))
       go_meet
       case rel => exact ⟨_, (true), zagbkp, H', ⟨zpacfg⟩, ⟨zplhch⟩, ⟨zcphad⟩, ⟨znjalk⟩⟩
      replace c156 := Bool.eq_false_iff.mpr c156
      subst c156
      rw [if_neg fT_] at H
      revert H
      refine obs_ fun t128 A160 H => ?_
      by_cases c161 : t128 = true
      ·
       subst c161
       rw [if_pos rfl] at H
       have H' := aa H
       clear H
       have hnb162 := NB101_104.out
       have hnc162 := NB104_101.out
       obtain ⟨hcz163_0, hcz163_1, hcz163_2, hcz163_3, hcz163_4, hcz163_5, hfz163_0, hfz163_1, hfz163_2, hfz163_3, hfz163_4, hfz163_5⟩ := blk6_ BK101.out
       go_wp2_with (first | (refine gc_ Tryd.func18 (some 17) #[.int .i64 a0_0, .int .i64 1, .int .i64 8] ?_; (with_reducible refine (impl_within.calls a0_0 1 8 true _ A9.out).mono ?_); rintro e w' ⟨rfl, ⟨nd, rfl⟩⟩; refine ⟨_, rfl, ?_⟩; have hcz164_0 : w6.cell? ⟨gb104, 0, none⟩ = some (.string (⟨#[]⟩ : ByteArray)) := (blk_cell BK104.out 0).trans rfl; have hfz164_0 := blk_frozen BK104.out 0) | ((with_reducible refine gate_thru rfl ?_); refine goesG_ rfl Tryd.func16 (by kernel_rfl) rfl #[.string (⟨#[112]⟩ : ByteArray), .pointer (some ⟨gb104, 0, none⟩)] (.pointer (some ⟨gb104, 0, none⟩)) rfl rfl zabhoi (by rfl) ?_; (with_reducible refine (impl_OpFault_1.calls (⟨#[112]⟩ : ByteArray) t103 false _ A11.out gb104 ?sidex).mono ?_); (case sidex => exact zpjhli); rintro e w' ⟨rfl, ⟨nd, rfl⟩⟩) | ((with_reducible refine gate_thru rfl ?_); refine goesG_ rfl Tryd.func16 (by kernel_rfl) rfl #[.string (⟨#[100]⟩ : ByteArray), .pointer (some ⟨gb104, 0, none⟩)] (.pointer (some ⟨gb104, 0, none⟩)) rfl rfl zabhoi (by rfl) ?_; (with_reducible refine (impl_OpFault_1.calls (⟨#[100]⟩ : ByteArray) t103 true _ A123.out gb104 ?sidex).mono ?_); (case sidex => exact zpjhli); rintro e w' ⟨rfl, ⟨nd, rfl⟩⟩) | ((with_reducible refine gate_thru rfl ?_); refine goesG_ rfl Tryd.func16 (by kernel_rfl) rfl #[.string (⟨#[118]⟩ : ByteArray), .pointer (some ⟨gb104, 0, none⟩)] (.pointer (some ⟨gb104, 0, none⟩)) rfl rfl zabhoi (by rfl) ?_; (with_reducible refine (impl_OpFault_1.calls (⟨#[118]⟩ : ByteArray) t103 false _ A126.out gb104 ?sidex).mono ?_); (case sidex => exact zpjhli); rintro e w' ⟨rfl, ⟨nd, rfl⟩⟩) | ((with_reducible refine gate_thru rfl ?_); refine goesG_ rfl Tryd.func16 (by kernel_rfl) rfl #[.string (⟨#[115]⟩ : ByteArray), .pointer (some ⟨gb104, 0, none⟩)] (.pointer (some ⟨gb104, 0, none⟩)) rfl rfl zabhoi (by rfl) ?_; (with_reducible refine (impl_OpFault_1.calls (⟨#[115]⟩ : ByteArray) t103 true _ A154.out gb104 ?sidex).mono ?_); (case sidex => exact zpjhli); rintro e w' ⟨rfl, ⟨nd, rfl⟩⟩) | ((with_reducible refine gate_thru rfl ?_); refine goesG_ rfl Tryd.func16 (by kernel_rfl) rfl #[.string (⟨#[111]⟩ : ByteArray), .pointer (some ⟨gb104, 0, none⟩)] (.pointer (some ⟨gb104, 0, none⟩)) rfl rfl zabhoi (by rfl) ?_; (with_reducible refine (impl_OpFault_1.calls (⟨#[111]⟩ : ByteArray) t103 true _ A160.out gb104 ?sidex).mono ?_); (case sidex => exact zpjhli); rintro e w' ⟨rfl, ⟨nd, rfl⟩⟩))
       go_meet
       case rel => exact ⟨_, (a0_5), zagbkp, H', ⟨zpacfg⟩, ⟨zplhch⟩, ⟨zcphad⟩, ⟨znjalk⟩⟩
      replace c161 := Bool.eq_false_iff.mpr c161
      subst c161
      rw [if_neg fT_] at H
      have H' := aa H
      clear H
      have hnb165 := NB101_104.out
      have hnc165 := NB104_101.out
      obtain ⟨hcz166_0, hcz166_1, hcz166_2, hcz166_3, hcz166_4, hcz166_5, hfz166_0, hfz166_1, hfz166_2, hfz166_3, hfz166_4, hfz166_5⟩ := blk6_ BK101.out
      go_wp2_with (first | (refine gc_ Tryd.func18 (some 17) #[.int .i64 a0_0, .int .i64 1, .int .i64 8] ?_; (with_reducible refine (impl_within.calls a0_0 1 8 true _ A9.out).mono ?_); rintro e w' ⟨rfl, ⟨nd, rfl⟩⟩; refine ⟨_, rfl, ?_⟩; have hcz167_0 : w6.cell? ⟨gb104, 0, none⟩ = some (.string (⟨#[]⟩ : ByteArray)) := (blk_cell BK104.out 0).trans rfl; have hfz167_0 := blk_frozen BK104.out 0) | ((with_reducible refine gate_thru rfl ?_); refine goesG_ rfl Tryd.func16 (by kernel_rfl) rfl #[.string (⟨#[112]⟩ : ByteArray), .pointer (some ⟨gb104, 0, none⟩)] (.pointer (some ⟨gb104, 0, none⟩)) rfl rfl zabhoi (by rfl) ?_; (with_reducible refine (impl_OpFault_1.calls (⟨#[112]⟩ : ByteArray) t103 false _ A11.out gb104 ?sidex).mono ?_); (case sidex => exact zpjhli); rintro e w' ⟨rfl, ⟨nd, rfl⟩⟩) | ((with_reducible refine gate_thru rfl ?_); refine goesG_ rfl Tryd.func16 (by kernel_rfl) rfl #[.string (⟨#[100]⟩ : ByteArray), .pointer (some ⟨gb104, 0, none⟩)] (.pointer (some ⟨gb104, 0, none⟩)) rfl rfl zabhoi (by rfl) ?_; (with_reducible refine (impl_OpFault_1.calls (⟨#[100]⟩ : ByteArray) t103 true _ A123.out gb104 ?sidex).mono ?_); (case sidex => exact zpjhli); rintro e w' ⟨rfl, ⟨nd, rfl⟩⟩) | ((with_reducible refine gate_thru rfl ?_); refine goesG_ rfl Tryd.func16 (by kernel_rfl) rfl #[.string (⟨#[118]⟩ : ByteArray), .pointer (some ⟨gb104, 0, none⟩)] (.pointer (some ⟨gb104, 0, none⟩)) rfl rfl zabhoi (by rfl) ?_; (with_reducible refine (impl_OpFault_1.calls (⟨#[118]⟩ : ByteArray) t103 false _ A126.out gb104 ?sidex).mono ?_); (case sidex => exact zpjhli); rintro e w' ⟨rfl, ⟨nd, rfl⟩⟩) | ((with_reducible refine gate_thru rfl ?_); refine goesG_ rfl Tryd.func16 (by kernel_rfl) rfl #[.string (⟨#[115]⟩ : ByteArray), .pointer (some ⟨gb104, 0, none⟩)] (.pointer (some ⟨gb104, 0, none⟩)) rfl rfl zabhoi (by rfl) ?_; (with_reducible refine (impl_OpFault_1.calls (⟨#[115]⟩ : ByteArray) t103 true _ A154.out gb104 ?sidex).mono ?_); (case sidex => exact zpjhli); rintro e w' ⟨rfl, ⟨nd, rfl⟩⟩) | ((with_reducible refine gate_thru rfl ?_); refine goesG_ rfl Tryd.func16 (by kernel_rfl) rfl #[.string (⟨#[111]⟩ : ByteArray), .pointer (some ⟨gb104, 0, none⟩)] (.pointer (some ⟨gb104, 0, none⟩)) rfl rfl zabhoi (by rfl) ?_; (with_reducible refine (impl_OpFault_1.calls (⟨#[111]⟩ : ByteArray) t103 false _ A160.out gb104 ?sidex).mono ?_); (case sidex => exact zpjhli); rintro e w' ⟨rfl, ⟨nd, rfl⟩⟩))
      go_meet
      case rel => exact ⟨_, (false), zagbkp, H', ⟨zpacfg⟩, ⟨zplhch⟩, ⟨zcphad⟩, ⟨znjalk⟩⟩
     replace c155 := Bool.eq_false_iff.mpr c155
     subst c155
     rw [if_neg fT_] at H
     revert H
     refine obs_ fun t129 A168 H => ?_
     by_cases c169 : t129 = true
     ·
      subst c169
      rw [if_pos rfl] at H
      have H' := aa H
      clear H
      have hnb170 := NB101_104.out
      have hnc170 := NB104_101.out
      obtain ⟨hcz171_0, hcz171_1, hcz171_2, hcz171_3, hcz171_4, hcz171_5, hfz171_0, hfz171_1, hfz171_2, hfz171_3, hfz171_4, hfz171_5⟩ := blk6_ BK101.out
      go_wp2_with (first | (refine gc_ Tryd.func18 (some 17) #[.int .i64 a0_0, .int .i64 1, .int .i64 8] ?_; (with_reducible refine (impl_within.calls a0_0 1 8 true _ A9.out).mono ?_); rintro e w' ⟨rfl, ⟨nd, rfl⟩⟩; refine ⟨_, rfl, ?_⟩; have hcz172_0 : w6.cell? ⟨gb104, 0, none⟩ = some (.string (⟨#[]⟩ : ByteArray)) := (blk_cell BK104.out 0).trans rfl; have hfz172_0 := blk_frozen BK104.out 0) | ((with_reducible refine gate_thru rfl ?_); refine goesG_ rfl Tryd.func16 (by kernel_rfl) rfl #[.string (⟨#[112]⟩ : ByteArray), .pointer (some ⟨gb104, 0, none⟩)] (.pointer (some ⟨gb104, 0, none⟩)) rfl rfl zabhoi (by rfl) ?_; (with_reducible refine (impl_OpFault_1.calls (⟨#[112]⟩ : ByteArray) t103 false _ A11.out gb104 ?sidex).mono ?_); (case sidex => exact zpjhli); rintro e w' ⟨rfl, ⟨nd, rfl⟩⟩) | ((with_reducible refine gate_thru rfl ?_); refine goesG_ rfl Tryd.func16 (by kernel_rfl) rfl #[.string (⟨#[100]⟩ : ByteArray), .pointer (some ⟨gb104, 0, none⟩)] (.pointer (some ⟨gb104, 0, none⟩)) rfl rfl zabhoi (by rfl) ?_; (with_reducible refine (impl_OpFault_1.calls (⟨#[100]⟩ : ByteArray) t103 true _ A123.out gb104 ?sidex).mono ?_); (case sidex => exact zpjhli); rintro e w' ⟨rfl, ⟨nd, rfl⟩⟩) | ((with_reducible refine gate_thru rfl ?_); refine goesG_ rfl Tryd.func16 (by kernel_rfl) rfl #[.string (⟨#[118]⟩ : ByteArray), .pointer (some ⟨gb104, 0, none⟩)] (.pointer (some ⟨gb104, 0, none⟩)) rfl rfl zabhoi (by rfl) ?_; (with_reducible refine (impl_OpFault_1.calls (⟨#[118]⟩ : ByteArray) t103 false _ A126.out gb104 ?sidex).mono ?_); (case sidex => exact zpjhli); rintro e w' ⟨rfl, ⟨nd, rfl⟩⟩) | ((with_reducible refine gate_thru rfl ?_); refine goesG_ rfl Tryd.func16 (by kernel_rfl) rfl #[.string (⟨#[115]⟩ : ByteArray), .pointer (some ⟨gb104, 0, none⟩)] (.pointer (some ⟨gb104, 0, none⟩)) rfl rfl zabhoi (by rfl) ?_; (with_reducible refine (impl_OpFault_1.calls (⟨#[115]⟩ : ByteArray) t103 false _ A154.out gb104 ?sidex).mono ?_); (case sidex => exact zpjhli); rintro e w' ⟨rfl, ⟨nd, rfl⟩⟩) | ((with_reducible refine gate_thru rfl ?_); refine goesG_ rfl Tryd.func16 (by kernel_rfl) rfl #[.string (⟨#[111]⟩ : ByteArray), .pointer (some ⟨gb104, 0, none⟩)] (.pointer (some ⟨gb104, 0, none⟩)) rfl rfl zabhoi (by rfl) ?_; (with_reducible refine (impl_OpFault_1.calls (⟨#[111]⟩ : ByteArray) t103 true _ A168.out gb104 ?sidex).mono ?_); (case sidex => exact zpjhli); rintro e w' ⟨rfl, ⟨nd, rfl⟩⟩))
      go_meet
      case rel => exact ⟨_, (a0_5), zagbkp, H', ⟨zpacfg⟩, ⟨zplhch⟩, ⟨zcphad⟩, ⟨znjalk⟩⟩
     replace c169 := Bool.eq_false_iff.mpr c169
     subst c169
     rw [if_neg fT_] at H
     have H' := aa H
     clear H
     have hnb173 := NB101_104.out
     have hnc173 := NB104_101.out
     obtain ⟨hcz174_0, hcz174_1, hcz174_2, hcz174_3, hcz174_4, hcz174_5, hfz174_0, hfz174_1, hfz174_2, hfz174_3, hfz174_4, hfz174_5⟩ := blk6_ BK101.out
     go_wp2_with (first | (refine gc_ Tryd.func18 (some 17) #[.int .i64 a0_0, .int .i64 1, .int .i64 8] ?_; (with_reducible refine (impl_within.calls a0_0 1 8 true _ A9.out).mono ?_); rintro e w' ⟨rfl, ⟨nd, rfl⟩⟩; refine ⟨_, rfl, ?_⟩; have hcz175_0 : w6.cell? ⟨gb104, 0, none⟩ = some (.string (⟨#[]⟩ : ByteArray)) := (blk_cell BK104.out 0).trans rfl; have hfz175_0 := blk_frozen BK104.out 0) | ((with_reducible refine gate_thru rfl ?_); refine goesG_ rfl Tryd.func16 (by kernel_rfl) rfl #[.string (⟨#[112]⟩ : ByteArray), .pointer (some ⟨gb104, 0, none⟩)] (.pointer (some ⟨gb104, 0, none⟩)) rfl rfl zabhoi (by rfl) ?_; (with_reducible refine (impl_OpFault_1.calls (⟨#[112]⟩ : ByteArray) t103 false _ A11.out gb104 ?sidex).mono ?_); (case sidex => exact zpjhli); rintro e w' ⟨rfl, ⟨nd, rfl⟩⟩) | ((with_reducible refine gate_thru rfl ?_); refine goesG_ rfl Tryd.func16 (by kernel_rfl) rfl #[.string (⟨#[100]⟩ : ByteArray), .pointer (some ⟨gb104, 0, none⟩)] (.pointer (some ⟨gb104, 0, none⟩)) rfl rfl zabhoi (by rfl) ?_; (with_reducible refine (impl_OpFault_1.calls (⟨#[100]⟩ : ByteArray) t103 true _ A123.out gb104 ?sidex).mono ?_); (case sidex => exact zpjhli); rintro e w' ⟨rfl, ⟨nd, rfl⟩⟩) | ((with_reducible refine gate_thru rfl ?_); refine goesG_ rfl Tryd.func16 (by kernel_rfl) rfl #[.string (⟨#[118]⟩ : ByteArray), .pointer (some ⟨gb104, 0, none⟩)] (.pointer (some ⟨gb104, 0, none⟩)) rfl rfl zabhoi (by rfl) ?_; (with_reducible refine (impl_OpFault_1.calls (⟨#[118]⟩ : ByteArray) t103 false _ A126.out gb104 ?sidex).mono ?_); (case sidex => exact zpjhli); rintro e w' ⟨rfl, ⟨nd, rfl⟩⟩) | ((with_reducible refine gate_thru rfl ?_); refine goesG_ rfl Tryd.func16 (by kernel_rfl) rfl #[.string (⟨#[115]⟩ : ByteArray), .pointer (some ⟨gb104, 0, none⟩)] (.pointer (some ⟨gb104, 0, none⟩)) rfl rfl zabhoi (by rfl) ?_; (with_reducible refine (impl_OpFault_1.calls (⟨#[115]⟩ : ByteArray) t103 false _ A154.out gb104 ?sidex).mono ?_); (case sidex => exact zpjhli); rintro e w' ⟨rfl, ⟨nd, rfl⟩⟩) | ((with_reducible refine gate_thru rfl ?_); refine goesG_ rfl Tryd.func16 (by kernel_rfl) rfl #[.string (⟨#[111]⟩ : ByteArray), .pointer (some ⟨gb104, 0, none⟩)] (.pointer (some ⟨gb104, 0, none⟩)) rfl rfl zabhoi (by rfl) ?_; (with_reducible refine (impl_OpFault_1.calls (⟨#[111]⟩ : ByteArray) t103 false _ A168.out gb104 ?sidex).mono ?_); (case sidex => exact zpjhli); rintro e w' ⟨rfl, ⟨nd, rfl⟩⟩))
     go_meet
     case rel => exact ⟨_, (false), zagbkp, H', ⟨zpacfg⟩, ⟨zplhch⟩, ⟨zcphad⟩, ⟨znjalk⟩⟩
    have H' := aa H
    clear H
    have hnb176 := NB101_104.out
    have hnc176 := NB104_101.out
    obtain ⟨hcz177_0, hcz177_1, hcz177_2, hcz177_3, hcz177_4, hcz177_5, hfz177_0, hfz177_1, hfz177_2, hfz177_3, hfz177_4, hfz177_5⟩ := blk6_ BK101.out
    go_wp2_with (first | (refine gc_ Tryd.func18 (some 17) #[.int .i64 a0_0, .int .i64 1, .int .i64 8] ?_; (with_reducible refine (impl_within.calls a0_0 1 8 true _ A9.out).mono ?_); rintro e w' ⟨rfl, ⟨nd, rfl⟩⟩; refine ⟨_, rfl, ?_⟩; have hcz178_0 : w6.cell? ⟨gb104, 0, none⟩ = some (.string (⟨#[]⟩ : ByteArray)) := (blk_cell BK104.out 0).trans rfl; have hfz178_0 := blk_frozen BK104.out 0) | ((with_reducible refine gate_thru rfl ?_); refine goesG_ rfl Tryd.func16 (by kernel_rfl) rfl #[.string (⟨#[112]⟩ : ByteArray), .pointer (some ⟨gb104, 0, none⟩)] (.pointer (some ⟨gb104, 0, none⟩)) rfl rfl zabhoi (by rfl) ?_; (with_reducible refine (impl_OpFault_1.calls (⟨#[112]⟩ : ByteArray) t103 false _ A11.out gb104 ?sidex).mono ?_); (case sidex => exact zpjhli); rintro e w' ⟨rfl, ⟨nd, rfl⟩⟩) | ((with_reducible refine gate_thru rfl ?_); refine goesG_ rfl Tryd.func16 (by kernel_rfl) rfl #[.string (⟨#[100]⟩ : ByteArray), .pointer (some ⟨gb104, 0, none⟩)] (.pointer (some ⟨gb104, 0, none⟩)) rfl rfl zabhoi (by rfl) ?_; (with_reducible refine (impl_OpFault_1.calls (⟨#[100]⟩ : ByteArray) t103 true _ A123.out gb104 ?sidex).mono ?_); (case sidex => exact zpjhli); rintro e w' ⟨rfl, ⟨nd, rfl⟩⟩))
    go_meet
    case rel => exact ⟨_, (true), zagbkp, H', ⟨zpacfg⟩, ⟨zplhch⟩, ⟨zcphad⟩, ⟨znjalk⟩⟩
   replace c124 := Bool.eq_false_iff.mpr c124
   subst c124
   rw [if_neg fT_] at H
   revert H
   refine obs_ fun t130 A179 H => ?_
   by_cases c180 : t130 = true
   ·
    subst c180
    rw [if_pos rfl] at H
    revert H
    refine itE_ (fun c181b0 c181b1 H => ?_) fun c181b0 c181b1 H => ?_
    ·
     revert H
     refine obs_ fun t131 A182 H => ?_
     by_cases c183 : t131 = true
     ·
      subst c183
      rw [if_pos rfl] at H
      by_cases c184 : a0_4 = true
      ·
       subst c184
       rw [if_pos rfl] at H
       have H' := aa H
       clear H
       have hnb185 := NB101_104.out
       have hnc185 := NB104_101.out
       obtain ⟨hcz186_0, hcz186_1, hcz186_2, hcz186_3, hcz186_4, hcz186_5, hfz186_0, hfz186_1, hfz186_2, hfz186_3, hfz186_4, hfz186_5⟩ := blk6_ BK101.out
       go_wp2_with (first | (refine gc_ Tryd.func18 (some 17) #[.int .i64 a0_0, .int .i64 1, .int .i64 8] ?_; (with_reducible refine (impl_within.calls a0_0 1 8 true _ A9.out).mono ?_); rintro e w' ⟨rfl, ⟨nd, rfl⟩⟩; refine ⟨_, rfl, ?_⟩; have hcz187_0 : w6.cell? ⟨gb104, 0, none⟩ = some (.string (⟨#[]⟩ : ByteArray)) := (blk_cell BK104.out 0).trans rfl; have hfz187_0 := blk_frozen BK104.out 0) | ((with_reducible refine gate_thru rfl ?_); refine goesG_ rfl Tryd.func16 (by kernel_rfl) rfl #[.string (⟨#[112]⟩ : ByteArray), .pointer (some ⟨gb104, 0, none⟩)] (.pointer (some ⟨gb104, 0, none⟩)) rfl rfl zabhoi (by rfl) ?_; (with_reducible refine (impl_OpFault_1.calls (⟨#[112]⟩ : ByteArray) t103 false _ A11.out gb104 ?sidex).mono ?_); (case sidex => exact zpjhli); rintro e w' ⟨rfl, ⟨nd, rfl⟩⟩) | ((with_reducible refine gate_thru rfl ?_); refine goesG_ rfl Tryd.func16 (by kernel_rfl) rfl #[.string (⟨#[100]⟩ : ByteArray), .pointer (some ⟨gb104, 0, none⟩)] (.pointer (some ⟨gb104, 0, none⟩)) rfl rfl zabhoi (by rfl) ?_; (with_reducible refine (impl_OpFault_1.calls (⟨#[100]⟩ : ByteArray) t103 false _ A123.out gb104 ?sidex).mono ?_); (case sidex => exact zpjhli); rintro e w' ⟨rfl, ⟨nd, rfl⟩⟩) | ((with_reducible refine gate_thru rfl ?_); refine goesG_ rfl Tryd.func16 (by kernel_rfl) rfl #[.string (⟨#[118]⟩ : ByteArray), .pointer (some ⟨gb104, 0, none⟩)] (.pointer (some ⟨gb104, 0, none⟩)) rfl rfl zabhoi (by rfl) ?_; (with_reducible refine (impl_OpFault_1.calls (⟨#[118]⟩ : ByteArray) t103 true _ A179.out gb104 ?sidex).mono ?_); (case sidex => exact zpjhli); rintro e w' ⟨rfl, ⟨nd, rfl⟩⟩) | ((with_reducible refine gate_thru rfl ?_); refine goesG_ rfl Tryd.func16 (by kernel_rfl) rfl #[.string (⟨#[115]⟩ : ByteArray), .pointer (some ⟨gb104, 0, none⟩)] (.pointer (some ⟨gb104, 0, none⟩)) rfl rfl zabhoi (by rfl) ?_; (with_reducible refine (impl_OpFault_1.calls (⟨#[115]⟩ : ByteArray) t103 true _ A182.out gb104 ?sidex).mono ?_); (case sidex => exact zpjhli); rintro e w' ⟨rfl, ⟨nd, rfl⟩⟩))
       go_meet
       case rel => exact ⟨_, (true), zagbkp, H', ⟨zpacfg⟩, ⟨zplhch⟩, ⟨zcphad⟩, ⟨znjalk⟩⟩
      replace c184 := Bool.eq_false_iff.mpr c184
      subst c184
      rw [if_neg fT_] at H
      revert H
      refine obs_ fun t132 A188 H => ?_
      by_cases c189 : t132 = true
      ·
       subst c189
       rw [if_pos rfl] at H
       have H' := aa H
       clear H
       have hnb190 := NB101_104.out
       have hnc190 := NB104_101.out
       obtain ⟨hcz191_0, hcz191_1, hcz191_2, hcz191_3, hcz191_4, hcz191_5, hfz191_0, hfz191_1, hfz191_2, hfz191_3, hfz191_4, hfz191_5⟩ := blk6_ BK101.out
       go_wp2_with (first | (refine gc_ Tryd.func18 (some 17) #[.int .i64 a0_0, .int .i64 1, .int .i64 8] ?_; (with_reducible refine (impl_within.calls a0_0 1 8 true _ A9.out).mono ?_); rintro e w' ⟨rfl, ⟨nd, rfl⟩⟩; refine ⟨_, rfl, ?_⟩; have hcz192_0 : w6.cell? ⟨gb104, 0, none⟩ = some (.string (⟨#[]⟩ : ByteArray)) := (blk_cell BK104.out 0).trans rfl; have hfz192_0 := blk_frozen BK104.out 0) | ((with_reducible refine gate_thru rfl ?_); refine goesG_ rfl Tryd.func16 (by kernel_rfl) rfl #[.string (⟨#[112]⟩ : ByteArray), .pointer (some ⟨gb104, 0, none⟩)] (.pointer (some ⟨gb104, 0, none⟩)) rfl rfl zabhoi (by rfl) ?_; (with_reducible refine (impl_OpFault_1.calls (⟨#[112]⟩ : ByteArray) t103 false _ A11.out gb104 ?sidex).mono ?_); (case sidex => exact zpjhli); rintro e w' ⟨rfl, ⟨nd, rfl⟩⟩) | ((with_reducible refine gate_thru rfl ?_); refine goesG_ rfl Tryd.func16 (by kernel_rfl) rfl #[.string (⟨#[100]⟩ : ByteArray), .pointer (some ⟨gb104, 0, none⟩)] (.pointer (some ⟨gb104, 0, none⟩)) rfl rfl zabhoi (by rfl) ?_; (with_reducible refine (impl_OpFault_1.calls (⟨#[100]⟩ : ByteArray) t103 false _ A123.out gb104 ?sidex).mono ?_); (case sidex => exact zpjhli); rintro e w' ⟨rfl, ⟨nd, rfl⟩⟩) | ((with_reducible refine gate_thru rfl ?_); refine goesG_ rfl Tryd.func16 (by kernel_rfl) rfl #[.string (⟨#[118]⟩ : ByteArray), .pointer (some ⟨gb104, 0, none⟩)] (.pointer (some ⟨gb104, 0, none⟩)) rfl rfl zabhoi (by rfl) ?_; (with_reducible refine (impl_OpFault_1.calls (⟨#[118]⟩ : ByteArray) t103 true _ A179.out gb104 ?sidex).mono ?_); (case sidex => exact zpjhli); rintro e w' ⟨rfl, ⟨nd, rfl⟩⟩) | ((with_reducible refine gate_thru rfl ?_); refine goesG_ rfl Tryd.func16 (by kernel_rfl) rfl #[.string (⟨#[115]⟩ : ByteArray), .pointer (some ⟨gb104, 0, none⟩)] (.pointer (some ⟨gb104, 0, none⟩)) rfl rfl zabhoi (by rfl) ?_; (with_reducible refine (impl_OpFault_1.calls (⟨#[115]⟩ : ByteArray) t103 true _ A182.out gb104 ?sidex).mono ?_); (case sidex => exact zpjhli); rintro e w' ⟨rfl, ⟨nd, rfl⟩⟩) | ((with_reducible refine gate_thru rfl ?_); refine goesG_ rfl Tryd.func16 (by kernel_rfl) rfl #[.string (⟨#[111]⟩ : ByteArray), .pointer (some ⟨gb104, 0, none⟩)] (.pointer (some ⟨gb104, 0, none⟩)) rfl rfl zabhoi (by rfl) ?_; (with_reducible refine (impl_OpFault_1.calls (⟨#[111]⟩ : ByteArray) t103 true _ A188.out gb104 ?sidex).mono ?_); (case sidex => exact zpjhli); rintro e w' ⟨rfl, ⟨nd, rfl⟩⟩))
       go_meet
       case rel => exact ⟨_, (a0_5), zagbkp, H', ⟨zpacfg⟩, ⟨zplhch⟩, ⟨zcphad⟩, ⟨znjalk⟩⟩
      replace c189 := Bool.eq_false_iff.mpr c189
      subst c189
      rw [if_neg fT_] at H
      have H' := aa H
      clear H
      have hnb193 := NB101_104.out
      have hnc193 := NB104_101.out
      obtain ⟨hcz194_0, hcz194_1, hcz194_2, hcz194_3, hcz194_4, hcz194_5, hfz194_0, hfz194_1, hfz194_2, hfz194_3, hfz194_4, hfz194_5⟩ := blk6_ BK101.out
      go_wp2_with (first | (refine gc_ Tryd.func18 (some 17) #[.int .i64 a0_0, .int .i64 1, .int .i64 8] ?_; (with_reducible refine (impl_within.calls a0_0 1 8 true _ A9.out).mono ?_); rintro e w' ⟨rfl, ⟨nd, rfl⟩⟩; refine ⟨_, rfl, ?_⟩; have hcz195_0 : w6.cell? ⟨gb104, 0, none⟩ = some (.string (⟨#[]⟩ : ByteArray)) := (blk_cell BK104.out 0).trans rfl; have hfz195_0 := blk_frozen BK104.out 0) | ((with_reducible refine gate_thru rfl ?_); refine goesG_ rfl Tryd.func16 (by kernel_rfl) rfl #[.string (⟨#[112]⟩ : ByteArray), .pointer (some ⟨gb104, 0, none⟩)] (.pointer (some ⟨gb104, 0, none⟩)) rfl rfl zabhoi (by rfl) ?_; (with_reducible refine (impl_OpFault_1.calls (⟨#[112]⟩ : ByteArray) t103 false _ A11.out gb104 ?sidex).mono ?_); (case sidex => exact zpjhli); rintro e w' ⟨rfl, ⟨nd, rfl⟩⟩) | ((with_reducible refine gate_thru rfl ?_); refine goesG_ rfl Tryd.func16 (by kernel_rfl) rfl #[.string (⟨#[100]⟩ : ByteArray), .pointer (some ⟨gb104, 0, none⟩)] (.pointer (some ⟨gb104, 0, none⟩)) rfl rfl zabhoi (by rfl) ?_; (with_reducible refine (impl_OpFault_1.calls (⟨#[100]⟩ : ByteArray) t103 false _ A123.out gb104 ?sidex).mono ?_); (case sidex => exact zpjhli); rintro e w' ⟨rfl, ⟨nd, rfl⟩⟩) | ((with_reducible refine gate_thru rfl ?_); refine goesG_ rfl Tryd.func16 (by kernel_rfl) rfl #[.string (⟨#[118]⟩ : ByteArray), .pointer (some ⟨gb104, 0, none⟩)] (.pointer (some ⟨gb104, 0, none⟩)) rfl rfl zabhoi (by rfl) ?_; (with_reducible refine (impl_OpFault_1.calls (⟨#[118]⟩ : ByteArray) t103 true _ A179.out gb104 ?sidex).mono ?_); (case sidex => exact zpjhli); rintro e w' ⟨rfl, ⟨nd, rfl⟩⟩) | ((with_reducible refine gate_thru rfl ?_); refine goesG_ rfl Tryd.func16 (by kernel_rfl) rfl #[.string (⟨#[115]⟩ : ByteArray), .pointer (some ⟨gb104, 0, none⟩)] (.pointer (some ⟨gb104, 0, none⟩)) rfl rfl zabhoi (by rfl) ?_; (with_reducible refine (impl_OpFault_1.calls (⟨#[115]⟩ : ByteArray) t103 true _ A182.out gb104 ?sidex).mono ?_); (case sidex => exact zpjhli); rintro e w' ⟨rfl, ⟨nd, rfl⟩⟩) | ((with_reducible refine gate_thru rfl ?_); refine goesG_ rfl Tryd.func16 (by kernel_rfl) rfl #[.string (⟨#[111]⟩ : ByteArray), .pointer (some ⟨gb104, 0, none⟩)] (.pointer (some ⟨gb104, 0, none⟩)) rfl rfl zabhoi (by rfl) ?_; (with_reducible refine (impl_OpFault_1.calls (⟨#[111]⟩ : ByteArray) t103 false _ A188.out gb104 ?sidex).mono ?_); (case sidex => exact zpjhli); rintro e w' ⟨rfl, ⟨nd, rfl⟩⟩))
      go_meet
      case rel => exact ⟨_, (false), zagbkp, H', ⟨zpacfg⟩, ⟨zplhch⟩, ⟨zcphad⟩, ⟨znjalk⟩⟩
     replace c183 := Bool.eq_false_iff.mpr c183
     subst c183
     rw [if_neg fT_] at H
     revert H
     refine obs_ fun t133 A196 H => ?_
     by_cases c197 : t133 = true
     ·
      subst c197
      rw [if_pos rfl] at H
      have H' := aa H
      clear H
      have hnb198 := NB101_104.out
      have hnc198 := NB104_101.out
      obtain ⟨hcz199_0, hcz199_1, hcz199_2, hcz199_3, hcz199_4, hcz199_5, hfz199_0, hfz199_1, hfz199_2, hfz199_3, hfz199_4, hfz199_5⟩ := blk6_ BK101.out
      go_wp2_with (first | (refine gc_ Tryd.func18 (some 17) #[.int .i64 a0_0, .int .i64 1, .int .i64 8] ?_; (with_reducible refine (impl_within.calls a0_0 1 8 true _ A9.out).mono ?_); rintro e w' ⟨rfl, ⟨nd, rfl⟩⟩; refine ⟨_, rfl, ?_⟩; have hcz200_0 : w6.cell? ⟨gb104, 0, none⟩ = some (.string (⟨#[]⟩ : ByteArray)) := (blk_cell BK104.out 0).trans rfl; have hfz200_0 := blk_frozen BK104.out 0) | ((with_reducible refine gate_thru rfl ?_); refine goesG_ rfl Tryd.func16 (by kernel_rfl) rfl #[.string (⟨#[112]⟩ : ByteArray), .pointer (some ⟨gb104, 0, none⟩)] (.pointer (some ⟨gb104, 0, none⟩)) rfl rfl zabhoi (by rfl) ?_; (with_reducible refine (impl_OpFault_1.calls (⟨#[112]⟩ : ByteArray) t103 false _ A11.out gb104 ?sidex).mono ?_); (case sidex => exact zpjhli); rintro e w' ⟨rfl, ⟨nd, rfl⟩⟩) | ((with_reducible refine gate_thru rfl ?_); refine goesG_ rfl Tryd.func16 (by kernel_rfl) rfl #[.string (⟨#[100]⟩ : ByteArray), .pointer (some ⟨gb104, 0, none⟩)] (.pointer (some ⟨gb104, 0, none⟩)) rfl rfl zabhoi (by rfl) ?_; (with_reducible refine (impl_OpFault_1.calls (⟨#[100]⟩ : ByteArray) t103 false _ A123.out gb104 ?sidex).mono ?_); (case sidex => exact zpjhli); rintro e w' ⟨rfl, ⟨nd, rfl⟩⟩) | ((with_reducible refine gate_thru rfl ?_); refine goesG_ rfl Tryd.func16 (by kernel_rfl) rfl #[.string (⟨#[118]⟩ : ByteArray), .pointer (some ⟨gb104, 0, none⟩)] (.pointer (some ⟨gb104, 0, none⟩)) rfl rfl zabhoi (by rfl) ?_; (with_reducible refine (impl_OpFault_1.calls (⟨#[118]⟩ : ByteArray) t103 true _ A179.out gb104 ?sidex).mono ?_); (case sidex => exact zpjhli); rintro e w' ⟨rfl, ⟨nd, rfl⟩⟩) | ((with_reducible refine gate_thru rfl ?_); refine goesG_ rfl Tryd.func16 (by kernel_rfl) rfl #[.string (⟨#[115]⟩ : ByteArray), .pointer (some ⟨gb104, 0, none⟩)] (.pointer (some ⟨gb104, 0, none⟩)) rfl rfl zabhoi (by rfl) ?_; (with_reducible refine (impl_OpFault_1.calls (⟨#[115]⟩ : ByteArray) t103 false _ A182.out gb104 ?sidex).mono ?_); (case sidex => exact zpjhli); rintro e w' ⟨rfl, ⟨nd, rfl⟩⟩) | ((with_reducible refine gate_thru rfl ?_); refine goesG_ rfl Tryd.func16 (by kernel_rfl) rfl #[.string (⟨#[111]⟩ : ByteArray), .pointer (some ⟨gb104, 0, none⟩)] (.pointer (some ⟨gb104, 0, none⟩)) rfl rfl zabhoi (by rfl) ?_; (with_reducible refine (impl_OpFault_1.calls (⟨#[111]⟩ : ByteArray) t103 true _ A196.out gb104 ?sidex).mono ?_); (case sidex => exact zpjhli); rintro e w' ⟨rfl, ⟨nd, rfl⟩⟩))
      go_meet
      case rel => exact ⟨_, (a0_5), zagbkp, H', ⟨zpacfg⟩, ⟨zplhch⟩, ⟨zcphad⟩, ⟨znjalk⟩⟩
     replace c197 := Bool.eq_false_iff.mpr c197
     subst c197
     rw [if_neg fT_] at H
     have H' := aa H
     clear H
     have hnb201 := NB101_104.out
     have hnc201 := NB104_101.out
     obtain ⟨hcz202_0, hcz202_1, hcz202_2, hcz202_3, hcz202_4, hcz202_5, hfz202_0, hfz202_1, hfz202_2, hfz202_3, hfz202_4, hfz202_5⟩ := blk6_ BK101.out
     go_wp2_with (first | (refine gc_ Tryd.func18 (some 17) #[.int .i64 a0_0, .int .i64 1, .int .i64 8] ?_; (with_reducible refine (impl_within.calls a0_0 1 8 true _ A9.out).mono ?_); rintro e w' ⟨rfl, ⟨nd, rfl⟩⟩; refine ⟨_, rfl, ?_⟩; have hcz203_0 : w6.cell? ⟨gb104, 0, none⟩ = some (.string (⟨#[]⟩ : ByteArray)) := (blk_cell BK104.out 0).trans rfl; have hfz203_0 := blk_frozen BK104.out 0) | ((with_reducible refine gate_thru rfl ?_); refine goesG_ rfl Tryd.func16 (by kernel_rfl) rfl #[.string (⟨#[112]⟩ : ByteArray), .pointer (some ⟨gb104, 0, none⟩)] (.pointer (some ⟨gb104, 0, none⟩)) rfl rfl zabhoi (by rfl) ?_; (with_reducible refine (impl_OpFault_1.calls (⟨#[112]⟩ : ByteArray) t103 false _ A11.out gb104 ?sidex).mono ?_); (case sidex => exact zpjhli); rintro e w' ⟨rfl, ⟨nd, rfl⟩⟩) | ((with_reducible refine gate_thru rfl ?_); refine goesG_ rfl Tryd.func16 (by kernel_rfl) rfl #[.string (⟨#[100]⟩ : ByteArray), .pointer (some ⟨gb104, 0, none⟩)] (.pointer (some ⟨gb104, 0, none⟩)) rfl rfl zabhoi (by rfl) ?_; (with_reducible refine (impl_OpFault_1.calls (⟨#[100]⟩ : ByteArray) t103 false _ A123.out gb104 ?sidex).mono ?_); (case sidex => exact zpjhli); rintro e w' ⟨rfl, ⟨nd, rfl⟩⟩) | ((with_reducible refine gate_thru rfl ?_); refine goesG_ rfl Tryd.func16 (by kernel_rfl) rfl #[.string (⟨#[118]⟩ : ByteArray), .pointer (some ⟨gb104, 0, none⟩)] (.pointer (some ⟨gb104, 0, none⟩)) rfl rfl zabhoi (by rfl) ?_; (with_reducible refine (impl_OpFault_1.calls (⟨#[118]⟩ : ByteArray) t103 true _ A179.out gb104 ?sidex).mono ?_); (case sidex => exact zpjhli); rintro e w' ⟨rfl, ⟨nd, rfl⟩⟩) | ((with_reducible refine gate_thru rfl ?_); refine goesG_ rfl Tryd.func16 (by kernel_rfl) rfl #[.string (⟨#[115]⟩ : ByteArray), .pointer (some ⟨gb104, 0, none⟩)] (.pointer (some ⟨gb104, 0, none⟩)) rfl rfl zabhoi (by rfl) ?_; (with_reducible refine (impl_OpFault_1.calls (⟨#[115]⟩ : ByteArray) t103 false _ A182.out gb104 ?sidex).mono ?_); (case sidex => exact zpjhli); rintro e w' ⟨rfl, ⟨nd, rfl⟩⟩) | ((with_reducible refine gate_thru rfl ?_); refine goesG_ rfl Tryd.func16 (by kernel_rfl) rfl #[.string (⟨#[111]⟩ : ByteArray), .pointer (some ⟨gb104, 0, none⟩)] (.pointer (some ⟨gb104, 0, none⟩)) rfl rfl zabhoi (by rfl) ?_; (with_reducible refine (impl_OpFault_1.calls (⟨#[111]⟩ : ByteArray) t103 false _ A196.out gb104 ?sidex).mono ?_); (case sidex => exact zpjhli); rintro e w' ⟨rfl, ⟨nd, rfl⟩⟩))
     go_meet
     case rel => exact ⟨_, (false), zagbkp, H', ⟨zpacfg⟩, ⟨zplhch⟩, ⟨zcphad⟩, ⟨znjalk⟩⟩
    have H' := aa H
    clear H
    have hnb204 := NB101_104.out
    have hnc204 := NB104_101.out
    obtain ⟨hcz205_0, hcz205_1, hcz205_2, hcz205_3, hcz205_4, hcz205_5, hfz205_0, hfz205_1, hfz205_2, hfz205_3, hfz205_4, hfz205_5⟩ := blk6_ BK101.out
    go_wp2_with (first | (refine gc_ Tryd.func18 (some 17) #[.int .i64 a0_0, .int .i64 1, .int .i64 8] ?_; (with_reducible refine (impl_within.calls a0_0 1 8 true _ A9.out).mono ?_); rintro e w' ⟨rfl, ⟨nd, rfl⟩⟩; refine ⟨_, rfl, ?_⟩; have hcz206_0 : w6.cell? ⟨gb104, 0, none⟩ = some (.string (⟨#[]⟩ : ByteArray)) := (blk_cell BK104.out 0).trans rfl; have hfz206_0 := blk_frozen BK104.out 0) | ((with_reducible refine gate_thru rfl ?_); refine goesG_ rfl Tryd.func16 (by kernel_rfl) rfl #[.string (⟨#[112]⟩ : ByteArray), .pointer (some ⟨gb104, 0, none⟩)] (.pointer (some ⟨gb104, 0, none⟩)) rfl rfl zabhoi (by rfl) ?_; (with_reducible refine (impl_OpFault_1.calls (⟨#[112]⟩ : ByteArray) t103 false _ A11.out gb104 ?sidex).mono ?_); (case sidex => exact zpjhli); rintro e w' ⟨rfl, ⟨nd, rfl⟩⟩) | ((with_reducible refine gate_thru rfl ?_); refine goesG_ rfl Tryd.func16 (by kernel_rfl) rfl #[.string (⟨#[100]⟩ : ByteArray), .pointer (some ⟨gb104, 0, none⟩)] (.pointer (some ⟨gb104, 0, none⟩)) rfl rfl zabhoi (by rfl) ?_; (with_reducible refine (impl_OpFault_1.calls (⟨#[100]⟩ : ByteArray) t103 false _ A123.out gb104 ?sidex).mono ?_); (case sidex => exact zpjhli); rintro e w' ⟨rfl, ⟨nd, rfl⟩⟩) | ((with_reducible refine gate_thru rfl ?_); refine goesG_ rfl Tryd.func16 (by kernel_rfl) rfl #[.string (⟨#[118]⟩ : ByteArray), .pointer (some ⟨gb104, 0, none⟩)] (.pointer (some ⟨gb104, 0, none⟩)) rfl rfl zabhoi (by rfl) ?_; (with_reducible refine (impl_OpFault_1.calls (⟨#[118]⟩ : ByteArray) t103 true _ A179.out gb104 ?sidex).mono ?_); (case sidex => exact zpjhli); rintro e w' ⟨rfl, ⟨nd, rfl⟩⟩))
    go_meet
    case rel => exact ⟨_, (true), zagbkp, H', ⟨zpacfg⟩, ⟨zplhch⟩, ⟨zcphad⟩, ⟨znjalk⟩⟩
   replace c180 := Bool.eq_false_iff.mpr c180
   subst c180
   rw [if_neg fT_] at H
   revert H
   refine obs_ fun t134 A207 H => ?_
   by_cases c208 : t134 = true
   ·
    subst c208
    rw [if_pos rfl] at H
    by_cases c209 : a0_4 = true
    ·
     subst c209
     rw [if_pos rfl] at H
     have H' := aa H
     clear H
     have hnb210 := NB101_104.out
     have hnc210 := NB104_101.out
     obtain ⟨hcz211_0, hcz211_1, hcz211_2, hcz211_3, hcz211_4, hcz211_5, hfz211_0, hfz211_1, hfz211_2, hfz211_3, hfz211_4, hfz211_5⟩ := blk6_ BK101.out
     go_wp2_with (first | (refine gc_ Tryd.func18 (some 17) #[.int .i64 a0_0, .int .i64 1, .int .i64 8] ?_; (with_reducible refine (impl_within.calls a0_0 1 8 true _ A9.out).mono ?_); rintro e w' ⟨rfl, ⟨nd, rfl⟩⟩; refine ⟨_, rfl, ?_⟩; have hcz212_0 : w6.cell? ⟨gb104, 0, none⟩ = some (.string (⟨#[]⟩ : ByteArray)) := (blk_cell BK104.out 0).trans rfl; have hfz212_0 := blk_frozen BK104.out 0) | ((with_reducible refine gate_thru rfl ?_); refine goesG_ rfl Tryd.func16 (by kernel_rfl) rfl #[.string (⟨#[112]⟩ : ByteArray), .pointer (some ⟨gb104, 0, none⟩)] (.pointer (some ⟨gb104, 0, none⟩)) rfl rfl zabhoi (by rfl) ?_; (with_reducible refine (impl_OpFault_1.calls (⟨#[112]⟩ : ByteArray) t103 false _ A11.out gb104 ?sidex).mono ?_); (case sidex => exact zpjhli); rintro e w' ⟨rfl, ⟨nd, rfl⟩⟩) | ((with_reducible refine gate_thru rfl ?_); refine goesG_ rfl Tryd.func16 (by kernel_rfl) rfl #[.string (⟨#[100]⟩ : ByteArray), .pointer (some ⟨gb104, 0, none⟩)] (.pointer (some ⟨gb104, 0, none⟩)) rfl rfl zabhoi (by rfl) ?_; (with_reducible refine (impl_OpFault_1.calls (⟨#[100]⟩ : ByteArray) t103 false _ A123.out gb104 ?sidex).mono ?_); (case sidex => exact zpjhli); rintro e w' ⟨rfl, ⟨nd, rfl⟩⟩) | ((with_reducible refine gate_thru rfl ?_); refine goesG_ rfl Tryd.func16 (by kernel_rfl) rfl #[.string (⟨#[118]⟩ : ByteArray), .pointer (some ⟨gb104, 0, none⟩)] (.pointer (some ⟨gb104, 0, none⟩)) rfl rfl zabhoi (by rfl) ?_; (with_reducible refine (impl_OpFault_1.calls (⟨#[118]⟩ : ByteArray) t103 false _ A179.out gb104 ?sidex).mono ?_); (case sidex => exact zpjhli); rintro e w' ⟨rfl, ⟨nd, rfl⟩⟩) | ((with_reducible refine gate_thru rfl ?_); refine goesG_ rfl Tryd.func16 (by kernel_rfl) rfl #[.string (⟨#[115]⟩ : ByteArray), .pointer (some ⟨gb104, 0, none⟩)] (.pointer (some ⟨gb104, 0, none⟩)) rfl rfl zabhoi (by rfl) ?_; (with_reducible refine (impl_OpFault_1.calls (⟨#[115]⟩ : ByteArray) t103 true _ A207.out gb104 ?sidex).mono ?_); (case sidex => exact zpjhli); rintro e w' ⟨rfl, ⟨nd, rfl⟩⟩))
     go_meet
     case rel => exact ⟨_, (true), zagbkp, H', ⟨zpacfg⟩, ⟨zplhch⟩, ⟨zcphad⟩, ⟨znjalk⟩⟩
    replace c209 := Bool.eq_false_iff.mpr c209
    subst c209
    rw [if_neg fT_] at H
    revert H
    refine obs_ fun t135 A213 H => ?_
    by_cases c214 : t135 = true
    ·
     subst c214
     rw [if_pos rfl] at H
     have H' := aa H
     clear H
     have hnb215 := NB101_104.out
     have hnc215 := NB104_101.out
     obtain ⟨hcz216_0, hcz216_1, hcz216_2, hcz216_3, hcz216_4, hcz216_5, hfz216_0, hfz216_1, hfz216_2, hfz216_3, hfz216_4, hfz216_5⟩ := blk6_ BK101.out
     go_wp2_with (first | (refine gc_ Tryd.func18 (some 17) #[.int .i64 a0_0, .int .i64 1, .int .i64 8] ?_; (with_reducible refine (impl_within.calls a0_0 1 8 true _ A9.out).mono ?_); rintro e w' ⟨rfl, ⟨nd, rfl⟩⟩; refine ⟨_, rfl, ?_⟩; have hcz217_0 : w6.cell? ⟨gb104, 0, none⟩ = some (.string (⟨#[]⟩ : ByteArray)) := (blk_cell BK104.out 0).trans rfl; have hfz217_0 := blk_frozen BK104.out 0) | ((with_reducible refine gate_thru rfl ?_); refine goesG_ rfl Tryd.func16 (by kernel_rfl) rfl #[.string (⟨#[112]⟩ : ByteArray), .pointer (some ⟨gb104, 0, none⟩)] (.pointer (some ⟨gb104, 0, none⟩)) rfl rfl zabhoi (by rfl) ?_; (with_reducible refine (impl_OpFault_1.calls (⟨#[112]⟩ : ByteArray) t103 false _ A11.out gb104 ?sidex).mono ?_); (case sidex => exact zpjhli); rintro e w' ⟨rfl, ⟨nd, rfl⟩⟩) | ((with_reducible refine gate_thru rfl ?_); refine goesG_ rfl Tryd.func16 (by kernel_rfl) rfl #[.string (⟨#[100]⟩ : ByteArray), .pointer (some ⟨gb104, 0, none⟩)] (.pointer (some ⟨gb104, 0, none⟩)) rfl rfl zabhoi (by rfl) ?_; (with_reducible refine (impl_OpFault_1.calls (⟨#[100]⟩ : ByteArray) t103 false _ A123.out gb104 ?sidex).mono ?_); (case sidex => exact zpjhli); rintro e w' ⟨rfl, ⟨nd, rfl⟩⟩) | ((with_reducible refine gate_thru rfl ?_); refine goesG_ rfl Tryd.func16 (by kernel_rfl) rfl #[.string (⟨#[118]⟩ : ByteArray), .pointer (some ⟨gb104, 0, none⟩)] (.pointer (some ⟨gb104, 0, none⟩)) rfl rfl zabhoi (by rfl) ?_; (with_reducible refine (impl_OpFault_1.calls (⟨#[118]⟩ : ByteArray) t103 false _ A179.out gb104 ?sidex).mono ?_); (case sidex => exact zpjhli); rintro e w' ⟨rfl, ⟨nd, rfl⟩⟩) | ((with_reducible refine gate_thru rfl ?_); refine goesG_ rfl Tryd.func16 (by kernel_rfl) rfl #[.string (⟨#[115]⟩ : ByteArray), .pointer (some ⟨gb104, 0, none⟩)] (.pointer (some ⟨gb104, 0, none⟩)) rfl rfl zabhoi (by rfl) ?_; (with_reducible refine (impl_OpFault_1.calls (⟨#[115]⟩ : ByteArray) t103 true _ A207.out gb104 ?sidex).mono ?_); (case sidex => exact zpjhli); rintro e w' ⟨rfl, ⟨nd, rfl⟩⟩) | ((with_reducible refine gate_thru rfl ?_); refine goesG_ rfl Tryd.func16 (by kernel_rfl) rfl #[.string (⟨#[111]⟩ : ByteArray), .pointer (some ⟨gb104, 0, none⟩)] (.pointer (some ⟨gb104, 0, none⟩)) rfl rfl zabhoi (by rfl) ?_; (with_reducible refine (impl_OpFault_1.calls (⟨#[111]⟩ : ByteArray) t103 true _ A213.out gb104 ?sidex).mono ?_); (case sidex => exact zpjhli); rintro e w' ⟨rfl, ⟨nd, rfl⟩⟩))
     go_meet
     case rel => exact ⟨_, (a0_5), zagbkp, H', ⟨zpacfg⟩, ⟨zplhch⟩, ⟨zcphad⟩, ⟨znjalk⟩⟩
    replace c214 := Bool.eq_false_iff.mpr c214
    subst c214
    rw [if_neg fT_] at H
    have H' := aa H
    clear H
    have hnb218 := NB101_104.out
    have hnc218 := NB104_101.out
    obtain ⟨hcz219_0, hcz219_1, hcz219_2, hcz219_3, hcz219_4, hcz219_5, hfz219_0, hfz219_1, hfz219_2, hfz219_3, hfz219_4, hfz219_5⟩ := blk6_ BK101.out
    go_wp2_with (first | (refine gc_ Tryd.func18 (some 17) #[.int .i64 a0_0, .int .i64 1, .int .i64 8] ?_; (with_reducible refine (impl_within.calls a0_0 1 8 true _ A9.out).mono ?_); rintro e w' ⟨rfl, ⟨nd, rfl⟩⟩; refine ⟨_, rfl, ?_⟩; have hcz220_0 : w6.cell? ⟨gb104, 0, none⟩ = some (.string (⟨#[]⟩ : ByteArray)) := (blk_cell BK104.out 0).trans rfl; have hfz220_0 := blk_frozen BK104.out 0) | ((with_reducible refine gate_thru rfl ?_); refine goesG_ rfl Tryd.func16 (by kernel_rfl) rfl #[.string (⟨#[112]⟩ : ByteArray), .pointer (some ⟨gb104, 0, none⟩)] (.pointer (some ⟨gb104, 0, none⟩)) rfl rfl zabhoi (by rfl) ?_; (with_reducible refine (impl_OpFault_1.calls (⟨#[112]⟩ : ByteArray) t103 false _ A11.out gb104 ?sidex).mono ?_); (case sidex => exact zpjhli); rintro e w' ⟨rfl, ⟨nd, rfl⟩⟩) | ((with_reducible refine gate_thru rfl ?_); refine goesG_ rfl Tryd.func16 (by kernel_rfl) rfl #[.string (⟨#[100]⟩ : ByteArray), .pointer (some ⟨gb104, 0, none⟩)] (.pointer (some ⟨gb104, 0, none⟩)) rfl rfl zabhoi (by rfl) ?_; (with_reducible refine (impl_OpFault_1.calls (⟨#[100]⟩ : ByteArray) t103 false _ A123.out gb104 ?sidex).mono ?_); (case sidex => exact zpjhli); rintro e w' ⟨rfl, ⟨nd, rfl⟩⟩) | ((with_reducible refine gate_thru rfl ?_); refine goesG_ rfl Tryd.func16 (by kernel_rfl) rfl #[.string (⟨#[118]⟩ : ByteArray), .pointer (some ⟨gb104, 0, none⟩)] (.pointer (some ⟨gb104, 0, none⟩)) rfl rfl zabhoi (by rfl) ?_; (with_reducible refine (impl_OpFault_1.calls (⟨#[118]⟩ : ByteArray) t103 false _ A179.out gb104 ?sidex).mono ?_); (case sidex => exact zpjhli); rintro e w' ⟨rfl, ⟨nd, rfl⟩⟩) | ((with_reducible refine gate_thru rfl ?_); refine goesG_ rfl Tryd.func16 (by kernel_rfl) rfl #[.string (⟨#[115]⟩ : ByteArray), .pointer (some ⟨gb104, 0, none⟩)] (.pointer (some ⟨gb104, 0, none⟩)) rfl rfl zabhoi (by rfl) ?_; (with_reducible refine (impl_OpFault_1.calls (⟨#[115]⟩ : ByteArray) t103 true _ A207.out gb104 ?sidex).mono ?_); (case sidex => exact zpjhli); rintro e w' ⟨rfl, ⟨nd, rfl⟩⟩) | ((with_reducible refine gate_thru rfl ?_); refine goesG_ rfl Tryd.func16 (by kernel_rfl) rfl #[.string (⟨#[111]⟩ : ByteArray), .pointer (some ⟨gb104, 0, none⟩)] (.pointer (some ⟨gb104, 0, none⟩)) rfl rfl zabhoi (by rfl) ?_; (with_reducible refine (impl_OpFault_1.calls (⟨#[111]⟩ : ByteArray) t103 false _ A213.out gb104 ?sidex).mono ?_); (case sidex => exact zpjhli); rintro e w' ⟨rfl, ⟨nd, rfl⟩⟩))
    go_meet
    case rel => exact ⟨_, (false), zagbkp, H', ⟨zpacfg⟩, ⟨zplhch⟩, ⟨zcphad⟩, ⟨znjalk⟩⟩
   replace c208 := Bool.eq_false_iff.mpr c208
   subst c208
   rw [if_neg fT_] at H
   revert H
   refine obs_ fun t136 A221 H => ?_
   by_cases c222 : t136 = true
   ·
    subst c222
    rw [if_pos rfl] at H
    have H' := aa H
    clear H
    have hnb223 := NB101_104.out
    have hnc223 := NB104_101.out
    obtain ⟨hcz224_0, hcz224_1, hcz224_2, hcz224_3, hcz224_4, hcz224_5, hfz224_0, hfz224_1, hfz224_2, hfz224_3, hfz224_4, hfz224_5⟩ := blk6_ BK101.out
    go_wp2_with (first | (refine gc_ Tryd.func18 (some 17) #[.int .i64 a0_0, .int .i64 1, .int .i64 8] ?_; (with_reducible refine (impl_within.calls a0_0 1 8 true _ A9.out).mono ?_); rintro e w' ⟨rfl, ⟨nd, rfl⟩⟩; refine ⟨_, rfl, ?_⟩; have hcz225_0 : w6.cell? ⟨gb104, 0, none⟩ = some (.string (⟨#[]⟩ : ByteArray)) := (blk_cell BK104.out 0).trans rfl; have hfz225_0 := blk_frozen BK104.out 0) | ((with_reducible refine gate_thru rfl ?_); refine goesG_ rfl Tryd.func16 (by kernel_rfl) rfl #[.string (⟨#[112]⟩ : ByteArray), .pointer (some ⟨gb104, 0, none⟩)] (.pointer (some ⟨gb104, 0, none⟩)) rfl rfl zabhoi (by rfl) ?_; (with_reducible refine (impl_OpFault_1.calls (⟨#[112]⟩ : ByteArray) t103 false _ A11.out gb104 ?sidex).mono ?_); (case sidex => exact zpjhli); rintro e w' ⟨rfl, ⟨nd, rfl⟩⟩) | ((with_reducible refine gate_thru rfl ?_); refine goesG_ rfl Tryd.func16 (by kernel_rfl) rfl #[.string (⟨#[100]⟩ : ByteArray), .pointer (some ⟨gb104, 0, none⟩)] (.pointer (some ⟨gb104, 0, none⟩)) rfl rfl zabhoi (by rfl) ?_; (with_reducible refine (impl_OpFault_1.calls (⟨#[100]⟩ : ByteArray) t103 false _ A123.out gb104 ?sidex).mono ?_); (case sidex => exact zpjhli); rintro e w' ⟨rfl, ⟨nd, rfl⟩⟩) | ((with_reducible refine gate_thru rfl ?_); refine goesG_ rfl Tryd.func16 (by kernel_rfl) rfl #[.string (⟨#[118]⟩ : ByteArray), .pointer (some ⟨gb104, 0, none⟩)] (.pointer (some ⟨gb104, 0, none⟩)) rfl rfl zabhoi (by rfl) ?_; (with_reducible refine (impl_OpFault_1.calls (⟨#[118]⟩ : ByteArray) t103 false _ A179.out gb104 ?sidex).mono ?_); (case sidex => exact zpjhli); rintro e w' ⟨rfl, ⟨nd, rfl⟩⟩) | ((with_reducible refine gate_thru rfl ?_); refine goesG_ rfl Tryd.func16 (by kernel_rfl) rfl #[.string (⟨#[115]⟩ : ByteArray), .pointer (some ⟨gb104, 0, none⟩)] (.pointer (some ⟨gb104, 0, none⟩)) rfl rfl zabhoi (by rfl) ?_; (with_reducible refine (impl_OpFault_1.calls (⟨#[115]⟩ : ByteArray) t103 false _ A207.out gb104 ?sidex).mono ?_); (case sidex => exact zpjhli); rintro e w' ⟨rfl, ⟨nd, rfl⟩⟩) | ((with_reducible refine gate_thru rfl ?_); refine goesG_ rfl Tryd.func16 (by kernel_rfl) rfl #[.string (⟨#[111]⟩ : ByteArray), .pointer (some ⟨gb104, 0, none⟩)] (.pointer (some ⟨gb104, 0, none⟩)) rfl rfl zabhoi (by rfl) ?_; (with_reducible refine (impl_OpFault_1.calls (⟨#[111]⟩ : ByteArray) t103 true _ A221.out gb104 ?sidex).mono ?_); (case sidex => exact zpjhli); rintro e w' ⟨rfl, ⟨nd, rfl⟩⟩))
    go_meet
    case rel => exact ⟨_, (a0_5), zagbkp, H', ⟨zpacfg⟩, ⟨zplhch⟩, ⟨zcphad⟩, ⟨znjalk⟩⟩
   replace c222 := Bool.eq_false_iff.mpr c222
   subst c222
   rw [if_neg fT_] at H
   have H' := aa H
   clear H
   have hnb226 := NB101_104.out
   have hnc226 := NB104_101.out
   obtain ⟨hcz227_0, hcz227_1, hcz227_2, hcz227_3, hcz227_4, hcz227_5, hfz227_0, hfz227_1, hfz227_2, hfz227_3, hfz227_4, hfz227_5⟩ := blk6_ BK101.out
   go_wp2_with (first | (refine gc_ Tryd.func18 (some 17) #[.int .i64 a0_0, .int .i64 1, .int .i64 8] ?_; (with_reducible refine (impl_within.calls a0_0 1 8 true _ A9.out).mono ?_); rintro e w' ⟨rfl, ⟨nd, rfl⟩⟩; refine ⟨_, rfl, ?_⟩; have hcz228_0 : w6.cell? ⟨gb104, 0, none⟩ = some (.string (⟨#[]⟩ : ByteArray)) := (blk_cell BK104.out 0).trans rfl; have hfz228_0 := blk_frozen BK104.out 0) | ((with_reducible refine gate_thru rfl ?_); refine goesG_ rfl Tryd.func16 (by kernel_rfl) rfl #[.string (⟨#[112]⟩ : ByteArray), .pointer (some ⟨gb104, 0, none⟩)] (.pointer (some ⟨gb104, 0, none⟩)) rfl rfl zabhoi (by rfl) ?_; (with_reducible refine (impl_OpFault_1.calls (⟨#[112]⟩ : ByteArray) t103 false _ A11.out gb104 ?sidex).mono ?_); (case sidex => exact zpjhli); rintro e w' ⟨rfl, ⟨nd, rfl⟩⟩) | ((with_reducible refine gate_thru rfl ?_); refine goesG_ rfl Tryd.func16 (by kernel_rfl) rfl #[.string (⟨#[100]⟩ : ByteArray), .pointer (some ⟨gb104, 0, none⟩)] (.pointer (some ⟨gb104, 0, none⟩)) rfl rfl zabhoi (by rfl) ?_; (with_reducible refine (impl_OpFault_1.calls (⟨#[100]⟩ : ByteArray) t103 false _ A123.out gb104 ?sidex).mono ?_); (case sidex => exact zpjhli); rintro e w' ⟨rfl, ⟨nd, rfl⟩⟩) | ((with_reducible refine gate_thru rfl ?_); refine goesG_ rfl Tryd.func16 (by kernel_rfl) rfl #[.string (⟨#[118]⟩ : ByteArray), .pointer (some ⟨gb104, 0, none⟩)] (.pointer (some ⟨gb104, 0, none⟩)) rfl rfl zabhoi (by rfl) ?_; (with_reducible refine (impl_OpFault_1.calls (⟨#[118]⟩ : ByteArray) t103 false _ A179.out gb104 ?sidex).mono ?_); (case sidex => exact zpjhli); rintro e w' ⟨rfl, ⟨nd, rfl⟩⟩) | ((with_reducible refine gate_thru rfl ?_); refine goesG_ rfl Tryd.func16 (by kernel_rfl) rfl #[.string (⟨#[115]⟩ : ByteArray), .pointer (some ⟨gb104, 0, none⟩)] (.pointer (some ⟨gb104, 0, none⟩)) rfl rfl zabhoi (by rfl) ?_; (with_reducible refine (impl_OpFault_1.calls (⟨#[115]⟩ : ByteArray) t103 false _ A207.out gb104 ?sidex).mono ?_); (case sidex => exact zpjhli); rintro e w' ⟨rfl, ⟨nd, rfl⟩⟩) | ((with_reducible refine gate_thru rfl ?_); refine goesG_ rfl Tryd.func16 (by kernel_rfl) rfl #[.string (⟨#[111]⟩ : ByteArray), .pointer (some ⟨gb104, 0, none⟩)] (.pointer (some ⟨gb104, 0, none⟩)) rfl rfl zabhoi (by rfl) ?_; (with_reducible refine (impl_OpFault_1.calls (⟨#[111]⟩ : ByteArray) t103 false _ A221.out gb104 ?sidex).mono ?_); (case sidex => exact zpjhli); rintro e w' ⟨rfl, ⟨nd, rfl⟩⟩))
   go_meet
   case rel => exact ⟨_, (false), zagbkp, H', ⟨zpacfg⟩, ⟨zplhch⟩, ⟨zcphad⟩, ⟨znjalk⟩⟩
  replace c10 := Bool.eq_false_iff.mpr c10
  subst c10
  rw [if_neg fT_] at H
  have H' := aa H
  clear H
  have hnb229 := NB101_104.out
  have hnc229 := NB104_101.out
  obtain ⟨hcz230_0, hcz230_1, hcz230_2, hcz230_3, hcz230_4, hcz230_5, hfz230_0, hfz230_1, hfz230_2, hfz230_3, hfz230_4, hfz230_5⟩ := blk6_ BK101.out
  go_wp2_with (first | (refine gc_ Tryd.func18 (some 17) #[.int .i64 a0_0, .int .i64 1, .int .i64 8] ?_; (with_reducible refine (impl_within.calls a0_0 1 8 false _ A9.out).mono ?_); rintro e w' ⟨rfl, ⟨nd, rfl⟩⟩; refine ⟨_, rfl, ?_⟩))
  go_meet
  case rel => exact ⟨_, (true), zagbkp, H', ⟨zpacfg⟩, ⟨zplhch⟩, ⟨zcphad⟩, ⟨znjalk⟩⟩
 case rest =>
  clear HC3
  try clear p2
  try clear c10
  try clear c12
  try clear c15
  try clear c18
  try clear c21
  try clear c22
  try clear c124
  try clear c125b0
  try clear c125b1
  try clear c127
  try clear c128b0
  try clear c128b1
  try clear c155
  try clear c156
  try clear c161
  try clear c169
  try clear c180
  try clear c181b0
  try clear c181b1
  try clear c183
  try clear c184
  try clear c189
  try clear c197
  try clear c208
  try clear c209
  try clear c214
  try clear c222
  try clear hcz152_0
  try clear hcz152_1
  try clear hcz152_2
  try clear hcz152_3
  try clear hcz152_4
  try clear hcz152_5
  try clear hcz153_0
  try clear hcz158_0
  try clear hcz158_1
  try clear hcz158_2
  try clear hcz158_3
  try clear hcz158_4
  try clear hcz158_5
  try clear hcz159_0
  try clear hcz163_0
  try clear hcz163_1
  try clear hcz163_2
  try clear hcz163_3
  try clear hcz163_4
  try clear hcz163_5
  try clear hcz164_0
  try clear hcz166_0
  try clear hcz166_1
  try clear hcz166_2
  try clear hcz166_3
  try clear hcz166_4
  try clear hcz166_5
  try clear hcz167_0
  try clear hcz171_0
  try clear hcz171_1
  try clear hcz171_2
  try clear hcz171_3
  try clear hcz171_4
  try clear hcz171_5
  try clear hcz172_0
  try clear hcz174_0
  try clear hcz174_1
  try clear hcz174_2
  try clear hcz174_3
  try clear hcz174_4
  try clear hcz174_5
  try clear hcz175_0
  try clear hcz177_0
  try clear hcz177_1
  try clear hcz177_2
  try clear hcz177_3
  try clear hcz177_4
  try clear hcz177_5
  try clear hcz178_0
  try clear hcz186_0
  try clear hcz186_1
  try clear hcz186_2
  try clear hcz186_3
  try clear hcz186_4
  try clear hcz186_5
  try clear hcz187_0
  try clear hcz191_0
  try clear hcz191_1
  try clear hcz191_2
  try clear hcz191_3
  try clear hcz191_4
  try clear hcz191_5
  try clear hcz192_0
  try clear hcz194_0
  try clear hcz194_1
  try clear hcz194_2
  try clear hcz194_3
  try clear hcz194_4
  try clear hcz194_5
  try clear hcz195_0
  try clear hcz199_0
  try clear hcz199_1
  try clear hcz199_2
  try clear hcz199_3
  try clear hcz199_4
  try clear hcz199_5
  try clear hcz200_0
  try clear hcz202_0
  try clear hcz202_1
  try clear hcz202_2
  try clear hcz202_3
  try clear hcz202_4
  try clear hcz202_5
  try clear hcz203_0
  try clear hcz205_0
  try clear hcz205_1
  try clear hcz205_2
  try clear hcz205_3
  try clear hcz205_4
  try clear hcz205_5
  try clear hcz206_0
  try clear hcz211_0
  try clear hcz211_1
  try clear hcz211_2
  try clear hcz211_3
  try clear hcz211_4
  try clear hcz211_5
  try clear hcz212_0
  try clear hcz216_0
  try clear hcz216_1
  try clear hcz216_2
  try clear hcz216_3
  try clear hcz216_4
  try clear hcz216_5
  try clear hcz217_0
  try clear hcz219_0
  try clear hcz219_1
  try clear hcz219_2
  try clear hcz219_3
  try clear hcz219_4
  try clear hcz219_5
  try clear hcz220_0
  try clear hcz224_0
  try clear hcz224_1
  try clear hcz224_2
  try clear hcz224_3
  try clear hcz224_4
  try clear hcz224_5
  try clear hcz225_0
  try clear hcz227_0
  try clear hcz227_1
  try clear hcz227_2
  try clear hcz227_3
  try clear hcz227_4
  try clear hcz227_5
  try clear hcz228_0
  try clear hcz230_0
  try clear hcz230_1
  try clear hcz230_2
  try clear hcz230_3
  try clear hcz230_4
  try clear hcz230_5
  try clear hfz152_0
  try clear hfz152_1
  try clear hfz152_2
  try clear hfz152_3
  try clear hfz152_4
  try clear hfz152_5
  try clear hfz153_0
  try clear hfz158_0
  try clear hfz158_1
  try clear hfz158_2
  try clear hfz158_3
  try clear hfz158_4
  try clear hfz158_5
  try clear hfz159_0
  try clear hfz163_0
  try clear hfz163_1
  try clear hfz163_2
  try clear hfz163_3
  try clear hfz163_4
  try clear hfz163_5
  try clear hfz164_0
  try clear hfz166_0
  try clear hfz166_1
  try clear hfz166_2
  try clear hfz166_3
  try clear hfz166_4
  try clear hfz166_5
  try clear hfz167_0
  try clear hfz171_0
  try clear hfz171_1
  try clear hfz171_2
  try clear hfz171_3
  try clear hfz171_4
  try clear hfz171_5
  try clear hfz172_0
  try clear hfz174_0
  try clear hfz174_1
  try clear hfz174_2
  try clear hfz174_3
  try clear hfz174_4
  try clear hfz174_5
  try clear hfz175_0
  try clear hfz177_0
  try clear hfz177_1
  try clear hfz177_2
  try clear hfz177_3
  try clear hfz177_4
  try clear hfz177_5
  try clear hfz178_0
  try clear hfz186_0
  try clear hfz186_1
  try clear hfz186_2
  try clear hfz186_3
  try clear hfz186_4
  try clear hfz186_5
  try clear hfz187_0
  try clear hfz191_0
  try clear hfz191_1
  try clear hfz191_2
  try clear hfz191_3
  try clear hfz191_4
  try clear hfz191_5
  try clear hfz192_0
  try clear hfz194_0
  try clear hfz194_1
  try clear hfz194_2
  try clear hfz194_3
  try clear hfz194_4
  try clear hfz194_5
  try clear hfz195_0
  try clear hfz199_0
  try clear hfz199_1
  try clear hfz199_2
  try clear hfz199_3
  try clear hfz199_4
  try clear hfz199_5
  try clear hfz200_0
  try clear hfz202_0
  try clear hfz202_1
  try clear hfz202_2
  try clear hfz202_3
  try clear hfz202_4
  try clear hfz202_5
  try clear hfz203_0
  try clear hfz205_0
  try clear hfz205_1
  try clear hfz205_2
  try clear hfz205_3
  try clear hfz205_4
  try clear hfz205_5
  try clear hfz206_0
  try clear hfz211_0
  try clear hfz211_1
  try clear hfz211_2
  try clear hfz211_3
  try clear hfz211_4
  try clear hfz211_5
  try clear hfz212_0
  try clear hfz216_0
  try clear hfz216_1
  try clear hfz216_2
  try clear hfz216_3
  try clear hfz216_4
  try clear hfz216_5
  try clear hfz217_0
  try clear hfz219_0
  try clear hfz219_1
  try clear hfz219_2
  try clear hfz219_3
  try clear hfz219_4
  try clear hfz219_5
  try clear hfz220_0
  try clear hfz224_0
  try clear hfz224_1
  try clear hfz224_2
  try clear hfz224_3
  try clear hfz224_4
  try clear hfz224_5
  try clear hfz225_0
  try clear hfz227_0
  try clear hfz227_1
  try clear hfz227_2
  try clear hfz227_3
  try clear hfz227_4
  try clear hfz227_5
  try clear hfz228_0
  try clear hfz230_0
  try clear hfz230_1
  try clear hfz230_2
  try clear hfz230_3
  try clear hfz230_4
  try clear hfz230_5
  obtain ⟨kq, x14_2, rfl, HA, HJ2, BK101, BK104, HB⟩ := hcut
  cases kq with
  | zero => exact absurd HA.out (by simp [impl_OpFault.j0])
  | succ kj2 =>
   have H := HA.out
   clear HA
   simp only [impl_OpFault.j0] at H
   by_cases c231 : x14_2 = true
   ·
    subst c231
    rw [if_pos rfl] at H
    obtain rfl := Option.some.inj H
    go_wp2
    go_ret
    exact ⟨zlhpib, znjalk⟩
   ·
    replace c231 := Bool.eq_false_iff.mpr c231
    subst c231
    rw [if_neg fT_] at H
    revert H
    refine obs_ fun t137 A232 H => ?_
    by_cases c233 : t137 = true
    ·
     subst c233
     rw [if_pos rfl] at H
     obtain rfl := Option.some.inj H
     have hnb234 := NB104_101.out
     have hnc234 := NB101_104.out
     have hcz235_0 : wc.cell? ⟨gb104, 0, none⟩ = some (.string t103) := (blk_cell BK104.out 0).trans rfl
     have hfz235_0 := blk_frozen BK104.out 0
     go_wp2_with (first | ((with_reducible refine gate_thru rfl ?_); refine goesG_ rfl Tryd.func16 (by kernel_rfl) rfl #[.string (⟨#[112]⟩ : ByteArray), .pointer (some ⟨gb104, 0, none⟩)] (.pointer (some ⟨gb104, 0, none⟩)) rfl rfl zabhoi (by rfl) ?_; (with_reducible refine (impl_OpFault_1.calls (⟨#[112]⟩ : ByteArray) t103 true _ A232.out gb104 ?sidex).mono ?_); (case sidex => exact zpjhli); rintro e w' ⟨rfl, ⟨nd, rfl⟩⟩; refine ⟨_, rfl, ?_⟩))
     go_ret
     exact ⟨zlhpib, znjalk⟩
    replace c233 := Bool.eq_false_iff.mpr c233
    subst c233
    rw [if_neg fT_] at H
    revert H
    refine obs_ fun t138 A236 H => ?_
    revert H
    refine itE_ (fun c237b0 c237b1 H => ?_) fun c237b0 c237b1 H => ?_
    ·
     revert H
     refine obs_ fun t139 A238 H => ?_
     by_cases c239 : t139 = true
     ·
      subst c239
      rw [if_pos rfl] at H
      revert H
      refine obs_ fun t140 A240 H => ?_
      by_cases c241 : t140 = true
      ·
       subst c241
       rw [if_pos rfl] at H
       obtain rfl := Option.some.inj H
       have hnb242 := NB104_101.out
       have hnc242 := NB101_104.out
       have hcz243_0 : wc.cell? ⟨gb104, 0, none⟩ = some (.string t103) := (blk_cell BK104.out 0).trans rfl
       have hfz243_0 := blk_frozen BK104.out 0
       go_wp2_with (first | ((with_reducible refine gate_thru rfl ?_); refine goesG_ rfl Tryd.func16 (by kernel_rfl) rfl #[.string (⟨#[112]⟩ : ByteArray), .pointer (some ⟨gb104, 0, none⟩)] (.pointer (some ⟨gb104, 0, none⟩)) rfl rfl zabhoi (by rfl) ?_; (with_reducible refine (impl_OpFault_1.calls (⟨#[112]⟩ : ByteArray) t103 false _ A232.out gb104 ?sidex).mono ?_); (case sidex => exact zpjhli); rintro e w' ⟨rfl, ⟨nd, rfl⟩⟩; refine ⟨_, rfl, ?_⟩; obtain ⟨hcz244_0, hcz244_1, hcz244_2, hcz244_3, hcz244_4, hcz244_5, hfz244_0, hfz244_1, hfz244_2, hfz244_3, hfz244_4, hfz244_5⟩ := blk6_ BK101.out) | (refine gc_ Tryd.func19 (some 67) #[.string a0_1] ?_; (with_reducible refine (impl_PathFault.calls kj2 a0_1 t138 _ A236.out).mono ?_); rintro e w245 ⟨rfl, hb⟩; refine ⟨_, rfl, ?_⟩; replace BK101 := aa (bb_ BK101.out hb); replace BK104 := aa (bb_ BK104.out hb); replace HB := aa (below_step znjalk hb); (try clear hb hk hi); obtain ⟨hcz246_0, hcz246_1, hcz246_2, hcz246_3, hcz246_4, hcz246_5, hfz246_0, hfz246_1, hfz246_2, hfz246_3, hfz246_4, hfz246_5⟩ := blk6_ BK101.out) | (refine gc_ Tryd.func20 (some 73) #[.int .i64 a0_2] ?_; (with_reducible refine (impl_isData.calls a0_2 true _ A238.out).mono ?_); rintro e w' ⟨rfl, ⟨nd, rfl⟩⟩; refine ⟨_, rfl, ?_⟩) | (go_at_call 18; (with_reducible refine (impl_within.calls a0_3 (-1) 999 true _ A240.out).mono ?_); rintro e w' ⟨rfl, ⟨nd, rfl⟩⟩))
       go_ret
       exact ⟨zlhpib, znjalk⟩
      replace c241 := Bool.eq_false_iff.mpr c241
      subst c241
      rw [if_neg fT_] at H
      obtain rfl := Option.some.inj H
      have hnb247 := NB104_101.out
      have hnc247 := NB101_104.out
      have hcz248_0 : wc.cell? ⟨gb104, 0, none⟩ = some (.string t103) := (blk_cell BK104.out 0).trans rfl
      have hfz248_0 := blk_frozen BK104.out 0
      go_wp2_with (first | ((with_reducible refine gate_thru rfl ?_); refine goesG_ rfl Tryd.func16 (by kernel_rfl) rfl #[.string (⟨#[112]⟩ : ByteArray), .pointer (some ⟨gb104, 0, none⟩)] (.pointer (some ⟨gb104, 0, none⟩)) rfl rfl zabhoi (by rfl) ?_; (with_reducible refine (impl_OpFault_1.calls (⟨#[112]⟩ : ByteArray) t103 false _ A232.out gb104 ?sidex).mono ?_); (case sidex => exact zpjhli); rintro e w' ⟨rfl, ⟨nd, rfl⟩⟩; refine ⟨_, rfl, ?_⟩; obtain ⟨hcz249_0, hcz249_1, hcz249_2, hcz249_3, hcz249_4, hcz249_5, hfz249_0, hfz249_1, hfz249_2, hfz249_3, hfz249_4, hfz249_5⟩ := blk6_ BK101.out) | (refine gc_ Tryd.func19 (some 67) #[.string a0_1] ?_; (with_reducible refine (impl_PathFault.calls kj2 a0_1 t138 _ A236.out).mono ?_); rintro e w250 ⟨rfl, hb⟩; refine ⟨_, rfl, ?_⟩; replace BK101 := aa (bb_ BK101.out hb); replace BK104 := aa (bb_ BK104.out hb); replace HB := aa (below_step znjalk hb); (try clear hb hk hi); obtain ⟨hcz251_0, hcz251_1, hcz251_2, hcz251_3, hcz251_4, hcz251_5, hfz251_0, hfz251_1, hfz251_2, hfz251_3, hfz251_4, hfz251_5⟩ := blk6_ BK101.out) | (refine gc_ Tryd.func20 (some 73) #[.int .i64 a0_2] ?_; (with_reducible refine (impl_isData.calls a0_2 true _ A238.out).mono ?_); rintro e w' ⟨rfl, ⟨nd, rfl⟩⟩; refine ⟨_, rfl, ?_⟩) | (go_at_call 18; (with_reducible refine (impl_within.calls a0_3 (-1) 999 false _ A240.out).mono ?_); rintro e w' ⟨rfl, ⟨nd, rfl⟩⟩))
      go_ret
      exact ⟨zlhpib, znjalk⟩
     replace c239 := Bool.eq_false_iff.mpr c239
     subst c239
     rw [if_neg fT_] at H
     obtain rfl := Option.some.inj H
     have hnb252 := NB104_101.out
     have hnc252 := NB101_104.out
     have hcz253_0 : wc.cell? ⟨gb104, 0, none⟩ = some (.string t103) := (blk_cell BK104.out 0).trans rfl
     have hfz253_0 := blk_frozen BK104.out 0
     go_wp2_with (first | ((with_reducible refine gate_thru rfl ?_); refine goesG_ rfl Tryd.func16 (by kernel_rfl) rfl #[.string (⟨#[112]⟩ : ByteArray), .pointer (some ⟨gb104, 0, none⟩)] (.pointer (some ⟨gb104, 0, none⟩)) rfl rfl zabhoi (by rfl) ?_; (with_reducible refine (impl_OpFault_1.calls (⟨#[112]⟩ : ByteArray) t103 false _ A232.out gb104 ?sidex).mono ?_); (case sidex => exact zpjhli); rintro e w' ⟨rfl, ⟨nd, rfl⟩⟩; refine ⟨_, rfl, ?_⟩; obtain ⟨hcz254_0, hcz254_1, hcz254_2, hcz254_3, hcz254_4, hcz254_5, hfz254_0, hfz254_1, hfz254_2, hfz254_3, hfz254_4, hfz254_5⟩ := blk6_ BK101.out) | (refine gc_ Tryd.func19 (some 67) #[.string a0_1] ?_; (with_reducible refine (impl_PathFault.calls kj2 a0_1 t138 _ A236.out).mono ?_); rintro e w255 ⟨rfl, hb⟩; refine ⟨_, rfl, ?_⟩; replace BK101 := aa (bb_ BK101.out hb); replace BK104 := aa (bb_ BK104.out hb); replace HB := aa (below_step znjalk hb); (try clear hb hk hi); obtain ⟨hcz256_0, hcz256_1, hcz256_2, hcz256_3, hcz256_4, hcz256_5, hfz256_0, hfz256_1, hfz256_2, hfz256_3, hfz256_4, hfz256_5⟩ := blk6_ BK101.out) | (refine gc_ Tryd.func20 (some 73) #[.int .i64 a0_2] ?_; (with_reducible refine (impl_isData.calls a0_2 false _ A238.out).mono ?_); rintro e w' ⟨rfl, ⟨nd, rfl⟩⟩; refine ⟨_, rfl, ?_⟩))
     go_ret
     exact ⟨zlhpib, znjalk⟩
    obtain rfl := Option.some.inj H
    have hnb257 := NB104_101.out
    have hnc257 := NB101_104.out
    have hcz258_0 : wc.cell? ⟨gb104, 0, none⟩ = some (.string t103) := (blk_cell BK104.out 0).trans rfl
    have hfz258_0 := blk_frozen BK104.out 0
    go_wp2_with (first | ((with_reducible refine gate_thru rfl ?_); refine goesG_ rfl Tryd.func16 (by kernel_rfl) rfl #[.string (⟨#[112]⟩ : ByteArray), .pointer (some ⟨gb104, 0, none⟩)] (.pointer (some ⟨gb104, 0, none⟩)) rfl rfl zabhoi (by rfl) ?_; (with_reducible refine (impl_OpFault_1.calls (⟨#[112]⟩ : ByteArray) t103 false _ A232.out gb104 ?sidex).mono ?_); (case sidex => exact zpjhli); rintro e w' ⟨rfl, ⟨nd, rfl⟩⟩; refine ⟨_, rfl, ?_⟩; obtain ⟨hcz259_0, hcz259_1, hcz259_2, hcz259_3, hcz259_4, hcz259_5, hfz259_0, hfz259_1, hfz259_2, hfz259_3, hfz259_4, hfz259_5⟩ := blk6_ BK101.out) | (refine gc_ Tryd.func19 (some 67) #[.string a0_1] ?_; (with_reducible refine (impl_PathFault.calls kj2 a0_1 t138 _ A236.out).mono ?_); rintro e w260 ⟨rfl, hb⟩; refine ⟨_, rfl, ?_⟩; replace BK101 := aa (bb_ BK101.out hb); replace BK104 := aa (bb_ BK104.out hb); replace HB := aa (below_step znjalk hb); (try clear hb hk hi)))
    go_ret
    exact ⟨zlhpib, znjalk⟩
end Go.Proofs.YtbeghfdlbokhkaaDoor.Qc
namespace Go.Proofs.YtbeghfdlbokhkaaDoor.Qc
open Go.RowKit Go.Proofs.YtbeghfdlbokhkaaDoorW.PrintWords Go.Proofs.YtbeghfdlbokhkaaDoorW.PrintLast Go.Proofs.YtbeghfdlbokhkaaDoorW.PrintMore
attribute [local go_sem] max2_int min2_int max_two min_two max_three min_three max_four min_four
set_option linter.unusedVariables false
set_option linter.unusedSimpArgs false
set_option maxHeartbeats 8000000
set_option maxRecDepth 100000
def impl_isClient.f (a0 : Int) : Option (Bool) := (impl_within.f a0 1 9).bind fun t101 => (some t101)
theorem impl_isClient.calls (a0 : Int) (r : Bool) (w : World) (h : impl_isClient.f a0 = some r) :
  Calls Tryd.prog 24 #[.int .i64 a0] w fun e w' => e = .returned (.bool r) ∧ Drawn0 w w' := by
 have H : ((impl_within.f a0 1 9).bind fun t101 => (some t101)) = some r := h
 clear h
 revert H
 refine obs_ fun t101 A2 H => ?_
 obtain rfl := Option.some.inj H
 go_enter Tryd.func24, Tryd.ntmps24
 go_wp2_with (first | (refine gc_ Tryd.func18 (some 4) #[.int .i64 a0, .int .i64 1, .int .i64 9] ?_; (with_reducible refine (impl_within.calls a0 1 9 t101 _ A2.out).mono ?_); rintro e w' ⟨rfl, ⟨nd, rfl⟩⟩; refine ⟨_, rfl, ?_⟩))
 go_ret
 exact ⟨zagbkp, ziajdh⟩
def impl_isTime.f (a0 : Int) : Option (Bool) := (impl_within.f a0 0 9000).bind fun t101 => (some t101)
theorem impl_isTime.calls (a0 : Int) (r : Bool) (w : World) (h : impl_isTime.f a0 = some r) :
  Calls Tryd.prog 25 #[.int .i64 a0] w fun e w' => e = .returned (.bool r) ∧ Drawn0 w w' := by
 have H : ((impl_within.f a0 0 9000).bind fun t101 => (some t101)) = some r := h
 clear h
 revert H
 refine obs_ fun t101 A2 H => ?_
 obtain rfl := Option.some.inj H
 go_enter Tryd.func25, Tryd.ntmps25
 go_wp2_with (first | (refine gc_ Tryd.func18 (some 4) #[.int .i64 a0, .int .i64 0, .int .i64 9000] ?_; (with_reducible refine (impl_within.calls a0 0 9000 t101 _ A2.out).mono ?_); rintro e w' ⟨rfl, ⟨nd, rfl⟩⟩; refine ⟨_, rfl, ?_⟩))
 go_ret
 exact ⟨zagbkp, ziajdh⟩
def impl_isOnce.f (a0_0 : Int) (a0_1 : ByteArray) (a0_2 : Int) (a0_3 : Int) (a0_4 : Bool) (a0_5 : Bool) : Option (Bool) := if a0_0 = 1 then (some true) else (some (a0_0 == 2))
theorem impl_isOnce.calls (a0_0 : Int) (a0_1 : ByteArray) (a0_2 : Int) (a0_3 : Int) (a0_4 : Bool) (a0_5 : Bool) (r : Bool) (w : World) (h : impl_isOnce.f a0_0 a0_1 a0_2 a0_3 a0_4 a0_5 = some r) :
  Calls Tryd.prog 27 #[.agg #[.int .i64 a0_0, .string a0_1, .int .i64 a0_2, .int .i64 a0_3, .bool a0_4, .bool a0_5]] w fun e w' => e = .returned (.bool r) ∧ Below w.heap.size w w' := by
 have hu26 := Tryd.underlying26
 have HB := aa (Below.refl w.heap.size w)
 have H : (if a0_0 = 1 then (some true) else (some (a0_0 == 2))) = some r := h
 clear h
 revert H
 refine itE_ (fun c2b0 c2b1 H => ?_) fun c2b0 c2b1 H => ?_
 ·
  obtain rfl := Option.some.inj H
  go_enter Tryd.func27, Tryd.ntmps27
  go_wp2_with (first | (refine be_ 1 #[.int .i64 a0_0, .string a0_1, .int .i64 a0_2, .int .i64 a0_3, .bool a0_4, .bool a0_5] 26 ?_; intro gb101 hg w3 hbox hb; have n0_ := aa (below_step zjjbob hb); have n1_ := aa (hbox); have n2_ := aa ((zkpfjp : w.heap.size ≤ gb101)); have n3_ := aa ((zkpfjp : w.heap.size ≤ gb101)); clear HB; have HB := n0_; have BK101 := n1_; have GW101 := n2_; have GE101 := n3_; clear n0_ n1_ n2_ n3_; clear hb hbox hg; obtain ⟨hcz4_0, hcz4_1, hcz4_2, hcz4_3, hcz4_4, hcz4_5, hfz4_0, hfz4_1, hfz4_2, hfz4_3, hfz4_4, hfz4_5⟩ := blk6_ BK101.out))
  go_ret
  exact ⟨zlhpib, zkmbdh⟩
 obtain rfl := Option.some.inj H
 go_enter Tryd.func27, Tryd.ntmps27
 go_wp2_with (first | (refine be_ 1 #[.int .i64 a0_0, .string a0_1, .int .i64 a0_2, .int .i64 a0_3, .bool a0_4, .bool a0_5] 26 ?_; intro gb101 hg w5 hbox hb; have n0_ := aa (below_step zjjbob hb); have n1_ := aa (hbox); have n2_ := aa ((zkpfjp : w.heap.size ≤ gb101)); have n3_ := aa ((zkpfjp : w.heap.size ≤ gb101)); clear HB; have HB := n0_; have BK101 := n1_; have GW101 := n2_; have GE101 := n3_; clear n0_ n1_ n2_ n3_; clear hb hbox hg; obtain ⟨hcz6_0, hcz6_1, hcz6_2, hcz6_3, hcz6_4, hcz6_5, hfz6_0, hfz6_1, hfz6_2, hfz6_3, hfz6_4, hfz6_5⟩ := blk6_ BK101.out))
 go_ret
 exact ⟨zlhpib, zkmbdh⟩
def slices_IndexFunc_impl_Op_impl_Op.l0 : Nat → List (S26) → Int → Int → Option (Int)
 | 0, _, _, _ => none
 | k + 1, x0, x7, x8 => if x8 < x7 then (if 0 ≤ x8 then (if x8 < (x0.length : Int) then ((impl_isOnce.f ((rd_T26 x0 x8).f0) ((rd_T26 x0 x8).f1) ((rd_T26 x0 x8).f2) ((rd_T26 x0 x8).f3) ((rd_T26 x0 x8).f4) ((rd_T26 x0 x8).f5)).bind fun t102 => (if t102 = true then (some x8) else (slices_IndexFunc_impl_Op_impl_Op.l0 k x0 x7 (wrap64 (x8 + 1))))) else (none)) else (none)) else (some (-1))
def slices_IndexFunc_impl_Op_impl_Op.f (k : Nat) (l0 : List (S26))  : Option (Int) := slices_IndexFunc_impl_Op_impl_Op.l0 k l0 (l0.length : Int) 0
theorem slices_IndexFunc_impl_Op_impl_Op.mono_l : ∀ k, (∀ y0 y1 y2, LeO (slices_IndexFunc_impl_Op_impl_Op.l0 k y0 y1 y2) (slices_IndexFunc_impl_Op_impl_Op.l0 (k + 1) y0 y1 y2))
 | 0 => fun _ _ _ r h => by simp [slices_IndexFunc_impl_Op_impl_Op.l0] at h
 | k + 1 => by
  have ih0 := slices_IndexFunc_impl_Op_impl_Op.mono_l k
  ·
   intro y0 y1 y2
   unfold slices_IndexFunc_impl_Op_impl_Op.l0
   with_reducible repeat' first | exact ih0 _ _ _ | exact LeO.refl _ | exact LeO.none _ | refine LeO.ite ?_ ?_ | refine LeO.bind ?_ (fun _ => ?_)
theorem slices_IndexFunc_impl_Op_impl_Op.mono : ∀ a0 k, LeO (slices_IndexFunc_impl_Op_impl_Op.f k a0) (slices_IndexFunc_impl_Op_impl_Op.f (k + 1) a0) := by
 intro a0 k
 have ih0 := slices_IndexFunc_impl_Op_impl_Op.mono_l k
 unfold slices_IndexFunc_impl_Op_impl_Op.f
 with_reducible repeat' first | exact ih0 _ _ _ | exact LeO.refl _ | exact LeO.none _ | refine LeO.ite ?_ ?_ | refine LeO.bind ?_ (fun _ => ?_)
theorem slices_IndexFunc_impl_Op_impl_Op.calls (k : Nat) (A0 : Option Addr) (c0 : Nat) (l0 : List (S26))  (r : Int) (w : World) (hr0 : Kd.C k26 w A0 l0.length l0) (hc0 : l0.length ≤ c0) (h : slices_IndexFunc_impl_Op_impl_Op.f k l0 = some r) :
  Calls Tryd.prog 41 #[.slice A0 l0.length c0, .func (.func 27) #[] #[]] w fun e w' => e = .returned (.int .i64 r) ∧ Below w.heap.size w w' := by
 have hu26 := Tryd.underlying26
 have HR0 := aa hr0
 have HC0 := aa hc0
 clear hr0 hc0
 have HB := aa (Below.refl w.heap.size w)
 have H : (slices_IndexFunc_impl_Op_impl_Op.l0 k l0 (l0.length : Int) 0) = some r := h
 clear h
 have H' := aa H
 clear H
 go_enter Tryd.func41, Tryd.ntmps41
 go_wp2
 go_loopg [8] k (fun kq v8 w' => ∃ (x8_1 : Int), v8 = .int .i64 x8_1 ∧ Aside0 (slices_IndexFunc_impl_Op_impl_Op.l0 kq l0 (l0.length : Int) x8_1 = some r) ∧ Aside0 (kq ≤ k) ∧ Aside0 (Below w.heap.size w w'))
 case atStart => exact ⟨(0), zagbkp, H', ⟨Nat.le_refl _⟩, ⟨zjjbob⟩⟩
 case round =>
  clear H'
  try clear p2
  obtain ⟨x8_1, rfl, HA, HK1, HB⟩ := hrel
  cases gk with
  | zero => exact absurd HA.out (by simp [slices_IndexFunc_impl_Op_impl_Op.l0])
  | succ k1 =>
   have H := HA.out
   clear HA
   simp only [slices_IndexFunc_impl_Op_impl_Op.l0] at H
   revert H
   refine itD_ (fun c3b0 H => ?_) fun c3b0 H => ?_
   ·
    revert H
    refine itH_ fun c4b0 H => ?_
    revert H
    refine itH_ fun c5b0 H => ?_
    revert H
    refine obs_ fun t102 A6 H => ?_
    by_cases c7 : t102 = true
    ·
     subst c7
     rw [if_pos rfl] at H
     obtain rfl := Option.some.inj H
     have p101 : 0 ≤ (x8_1 : Int) := of_decide_eq_true zgglam
     have q101 : x8_1 < (l0.length : Int) := of_decide_eq_true zgglam
     obtain ⟨ad101, e101, hx101_0, hx101_1, hx101_2, hx101_3, hx101_4, hx101_5⟩ := at_T26 HR0.out x8_1 p101 q101
     cases e101
     replace hx101_0 := pb HB.out hx101_0
     replace hx101_1 := pb HB.out hx101_1
     replace hx101_2 := pb HB.out hx101_2
     replace hx101_3 := pb HB.out hx101_3
     replace hx101_4 := pb HB.out hx101_4
     replace hx101_5 := pb HB.out hx101_5
     replace p101 := eq_true p101
     replace q101 := eq_true q101
     go_wp2_with (first | (go_at_call 27; (with_reducible refine (impl_isOnce.calls ((rd_T26 l0 x8_1).f0) ((rd_T26 l0 x8_1).f1) ((rd_T26 l0 x8_1).f2) ((rd_T26 l0 x8_1).f3) ((rd_T26 l0 x8_1).f4) ((rd_T26 l0 x8_1).f5) true _ A6.out).mono ?_); rintro e w8 ⟨rfl, hb⟩; replace HB := aa (below_step zjjbob hb); (try clear hb hk hi)))
     go_ret
     exact ⟨zlhpib, zjjbob⟩
    replace c7 := Bool.eq_false_iff.mpr c7
    subst c7
    rw [if_neg fT_] at H
    have H' := aa H
    clear H
    have p101 : 0 ≤ (x8_1 : Int) := of_decide_eq_true zgglam
    have q101 : x8_1 < (l0.length : Int) := of_decide_eq_true zgglam
    obtain ⟨ad101, e101, hx101_0, hx101_1, hx101_2, hx101_3, hx101_4, hx101_5⟩ := at_T26 HR0.out x8_1 p101 q101
    cases e101
    replace hx101_0 := pb HB.out hx101_0
    replace hx101_1 := pb HB.out hx101_1
    replace hx101_2 := pb HB.out hx101_2
    replace hx101_3 := pb HB.out hx101_3
    replace hx101_4 := pb HB.out hx101_4
    replace hx101_5 := pb HB.out hx101_5
    replace p101 := eq_true p101
    replace q101 := eq_true q101
    go_wp2_with (first | (go_at_call 27; (with_reducible refine (impl_isOnce.calls ((rd_T26 l0 x8_1).f0) ((rd_T26 l0 x8_1).f1) ((rd_T26 l0 x8_1).f2) ((rd_T26 l0 x8_1).f3) ((rd_T26 l0 x8_1).f4) ((rd_T26 l0 x8_1).f5) false _ A6.out).mono ?_); rintro e w9 ⟨rfl, hb⟩; replace HB := aa (below_step zjjbob hb); (try clear hb hk hi)))
    go_roundg k1
    case measure => have := HK1.out; omega
    case rel => exact ⟨(wrap64 (x8_1 + 1)), zagbkp, H', ⟨by have := HK1.out; omega⟩, ⟨zjjbob⟩⟩
   ·
    obtain rfl := Option.some.inj H
    go_wp2
    go_ret
    exact ⟨zlhpib, zjjbob⟩
def slices_ContainsFunc_impl_Op_impl_Op.f (k : Nat) (l0 : List (S26))  : Option (Bool) := (slices_IndexFunc_impl_Op_impl_Op.f k l0).bind fun t101 => (some (decide (t101 ≥ 0)))
theorem slices_ContainsFunc_impl_Op_impl_Op.mono : ∀ a0 k, LeO (slices_ContainsFunc_impl_Op_impl_Op.f k a0) (slices_ContainsFunc_impl_Op_impl_Op.f (k + 1) a0) := by
 intro a0 k
 unfold slices_ContainsFunc_impl_Op_impl_Op.f
 with_reducible repeat' first | exact slices_IndexFunc_impl_Op_impl_Op.mono _ _ | exact LeO.refl _ | exact LeO.none _ | refine LeO.ite ?_ ?_ | refine LeO.bind ?_ (fun _ => ?_)
theorem slices_ContainsFunc_impl_Op_impl_Op.calls (k : Nat) (A0 : Option Addr) (c0 : Nat) (l0 : List (S26))  (r : Bool) (w : World) (hr0 : Kd.C k26 w A0 l0.length l0) (hc0 : l0.length ≤ c0) (h : slices_ContainsFunc_impl_Op_impl_Op.f k l0 = some r) :
  Calls Tryd.prog 26 #[.slice A0 l0.length c0, .func (.func 27) #[] #[]] w fun e w' => e = .returned (.bool r) ∧ Below w.heap.size w w' := by
 have HR0 := aa hr0
 have HC0 := aa hc0
 clear hr0 hc0
 have HB := aa (Below.refl w.heap.size w)
 have H : ((slices_IndexFunc_impl_Op_impl_Op.f k l0).bind fun t101 => (some (decide (t101 ≥ 0)))) = some r := h
 clear h
 revert H
 refine obs_ fun t101 A3 H => ?_
 obtain rfl := Option.some.inj H
 go_enter Tryd.func26, Tryd.ntmps26
 go_wp2_with (first | (refine gc_ Tryd.func41 (some 7) #[.slice A0 l0.length c0, .func (.func 27) #[] #[]] ?_; (with_reducible refine (slices_IndexFunc_impl_Op_impl_Op.calls k _ _ l0  t101 _ ?side1 ?side2 A3.out).mono ?_); (case side1 => repeat (first | exact HR0.out | (with_reducible refine Kd.C_alloc ?_ _) | (with_reducible refine Kd.C_drewN ?_ _) | (with_reducible refine Kd.C_drew ?_))); (case side2 => exact HC0.out); rintro e w4 ⟨rfl, hb⟩; refine ⟨_, rfl, ?_⟩; replace HB := aa (below_step zjjbob hb); (try clear hb hk hi)))
 go_ret
 exact ⟨zlhpib, zjjbob⟩
mutual
def impl_RequestFault.j0 : Nat → Bool → Int → Int → Int → List (S26) → Option (Int)
 | 0, _, _, _, _, _ => none
 | k + 1, x6, x102000, x102001, x102002, x102003 => if x6 = true then (some 3) else ((impl_within.f (x102003.length : Int) 1 3).bind fun t105 => (if t105 = true then (impl_RequestFault.l0 k x102003 (x102003.length : Int) 0 x102000 x102001 x102002 x102003) else (some 2)))
def impl_RequestFault.l0 : Nat → List (S26) → Int → Int → Int → Int → Int → List (S26) → Option (Int)
 | 0, _, _, _, _, _, _, _ => none
 | k + 1, x30, x31, x32, x102000, x102001, x102002, x102003 => if x32 < x31 then (if 0 ≤ x32 then (if x32 < (x30.length : Int) then ((impl_OpFault.f k ((rd_T26 x30 x32).f0) ((rd_T26 x30 x32).f1) ((rd_T26 x30 x32).f2) ((rd_T26 x30 x32).f3) ((rd_T26 x30 x32).f4) ((rd_T26 x30 x32).f5)).bind fun t108 => (if t108 = 0 then (impl_RequestFault.l0 k x30 x31 (wrap64 (x32 + 1)) x102000 x102001 x102002 x102003) else (some t108))) else (none)) else (none)) else (if (x102003.length : Int) > 1 then ((slices_ContainsFunc_impl_Op_impl_Op.f k x102003).bind fun t109 => (if t109 = true then (some 1) else (some 0))) else (some 0))
end
def impl_RequestFault.f (k : Nat) (a0_0 : Int) (a0_1 : Int) (a0_2 : Int) (l0_3 : List (S26)) : Option (Int) := (impl_isClient.f a0_0).bind fun t102 => (if t102 = true then ((impl_within.f a0_1 1 99).bind fun t103 => (if t103 = true then ((impl_isTime.f a0_2).bind fun t104 => (impl_RequestFault.j0 k (!t104) a0_0 a0_1 a0_2 l0_3)) else (impl_RequestFault.j0 k true a0_0 a0_1 a0_2 l0_3))) else (impl_RequestFault.j0 k true a0_0 a0_1 a0_2 l0_3))
theorem impl_RequestFault.mono_l : ∀ k, (∀ y0 y1 y2 y3 y4, LeO (impl_RequestFault.j0 k y0 y1 y2 y3 y4) (impl_RequestFault.j0 (k + 1) y0 y1 y2 y3 y4)) ∧ (∀ y0 y1 y2 y3 y4 y5 y6, LeO (impl_RequestFault.l0 k y0 y1 y2 y3 y4 y5 y6) (impl_RequestFault.l0 (k + 1) y0 y1 y2 y3 y4 y5 y6))
 | 0 => ⟨fun _ _ _ _ _ r h => by simp [impl_RequestFault.j0] at h, fun _ _ _ _ _ _ _ r h => by simp [impl_RequestFault.l0] at h⟩
 | k + 1 => by
  obtain ⟨ih0, ih1⟩ := impl_RequestFault.mono_l k
  refine ⟨?_, ?_⟩
  ·
   intro y0 y1 y2 y3 y4
   unfold impl_RequestFault.j0
   with_reducible repeat' first | exact ih0 _ _ _ _ _ | exact ih1 _ _ _ _ _ _ _ | exact impl_OpFault.mono _ _ _ _ _ _ _ | exact slices_ContainsFunc_impl_Op_impl_Op.mono _ _ | exact LeO.refl _ | exact LeO.none _ | refine LeO.ite ?_ ?_ | refine LeO.bind ?_ (fun _ => ?_)
  ·
   intro y0 y1 y2 y3 y4 y5 y6
   unfold impl_RequestFault.l0
   with_reducible repeat' first | exact ih0 _ _ _ _ _ | exact ih1 _ _ _ _ _ _ _ | exact impl_OpFault.mono _ _ _ _ _ _ _ | exact slices_ContainsFunc_impl_Op_impl_Op.mono _ _ | exact LeO.refl _ | exact LeO.none _ | refine LeO.ite ?_ ?_ | refine LeO.bind ?_ (fun _ => ?_)
theorem impl_RequestFault.mono : ∀ a0 a1 a2 a3 k, LeO (impl_RequestFault.f k a0 a1 a2 a3) (impl_RequestFault.f (k + 1) a0 a1 a2 a3) := by
 intro a0 a1 a2 a3 k
 obtain ⟨ih0, ih1⟩ := impl_RequestFault.mono_l k
 unfold impl_RequestFault.f
 with_reducible repeat' first | exact ih0 _ _ _ _ _ | exact ih1 _ _ _ _ _ _ _ | exact impl_OpFault.mono _ _ _ _ _ _ _ | exact slices_ContainsFunc_impl_Op_impl_Op.mono _ _ | exact LeO.refl _ | exact LeO.none _ | refine LeO.ite ?_ ?_ | refine LeO.bind ?_ (fun _ => ?_)
theorem impl_RequestFault.calls (k : Nat) (a0_0 : Int) (a0_1 : Int) (a0_2 : Int) (A0_3 : Option Addr) (c0_3 : Nat) (l0_3 : List (S26)) (r : Int) (w : World) (hr0_3 : Kd.C k26 w A0_3 l0_3.length l0_3) (hc0_3 : l0_3.length ≤ c0_3) (h : impl_RequestFault.f k a0_0 a0_1 a0_2 l0_3 = some r) :
  Calls Tryd.prog 12 #[.agg #[.int .i64 a0_0, .int .i64 a0_1, .int .i64 a0_2, .slice A0_3 l0_3.length c0_3]] w fun e w' => e = .returned (.int .i64 r) ∧ Below w.heap.size w w' := by
 have hu36 := Tryd.underlying36
 have hu26 := Tryd.underlying26
 have HR0_3 := aa hr0_3
 have HC0_3 := aa hc0_3
 clear hr0_3 hc0_3
 have HB := aa (Below.refl w.heap.size w)
 have H : ((impl_isClient.f a0_0).bind fun t102 => (if t102 = true then ((impl_within.f a0_1 1 99).bind fun t103 => (if t103 = true then ((impl_isTime.f a0_2).bind fun t104 => (impl_RequestFault.j0 k (!t104) a0_0 a0_1 a0_2 l0_3)) else (impl_RequestFault.j0 k true a0_0 a0_1 a0_2 l0_3))) else (impl_RequestFault.j0 k true a0_0 a0_1 a0_2 l0_3))) = some r := h
 clear h
 have HC2 := aa H
 clear H
 go_enter Tryd.func12, Tryd.ntmps12
 go_upto_region 1 with (first | (refine be_ 1 #[.int .i64 a0_0, .int .i64 a0_1, .int .i64 a0_2, .slice A0_3 l0_3.length c0_3] 36 ?_; intro gb101 hg w3 hbox hb; have n0_ := aa (below_step zjjbob hb); have n1_ := aa (hbox); have n2_ := aa ((zkpfjp : w.heap.size ≤ gb101)); have n3_ := aa ((zkpfjp : w.heap.size ≤ gb101)); clear HB; have HB := n0_; have BK101 := n1_; have GW101 := n2_; have GE101 := n3_; clear n0_ n1_ n2_ n3_; clear hb hbox hg))
 (try simp only [Act.put, List.setIfInBounds_toArray, List.set_cons_zero, List.set_cons_succ])
 go_cut [6] (fun v6 wc => ∃ (kq : Nat) (x6_1 : Bool), v6 = .bool x6_1 ∧ Aside0 (impl_RequestFault.j0 kq x6_1 a0_0 a0_1 a0_2 l0_3 = some r) ∧ Aside0 (kq ≤ k) ∧ Aside0 (wc.heap[gb101]? = some (.cells #[.int .i64 a0_0, .int .i64 a0_1, .int .i64 a0_2, (.slice A0_3 l0_3.length c0_3)] 36 (0, 0))) ∧ Aside0 (Below w.heap.size w wc))
 case first =>
  have H := HC2.out
  clear HC2
  revert H
  refine obs_ fun t102 A4 H => ?_
  by_cases c5 : t102 = true
  ·
   subst c5
   rw [if_pos rfl] at H
   revert H
   refine obs_ fun t103 A6 H => ?_
   by_cases c7 : t103 = true
   ·
    subst c7
    rw [if_pos rfl] at H
    revert H
    refine obs_ fun t104 A8 H => ?_
    have H' := aa H
    clear H
    obtain ⟨hcz9_0, hcz9_1, hcz9_2, hcz9_3, hfz9_0, hfz9_1, hfz9_2, hfz9_3⟩ := blk4_ BK101.out
    go_wp2_with (first | (refine gc_ Tryd.func24 (some 9) #[.int .i64 a0_0] ?_; (with_reducible refine (impl_isClient.calls a0_0 true _ A4.out).mono ?_); rintro e w' ⟨rfl, ⟨nd, rfl⟩⟩; refine ⟨_, rfl, ?_⟩) | (go_at_call 18; (with_reducible refine (impl_within.calls a0_1 1 99 true _ A6.out).mono ?_); rintro e w' ⟨rfl, ⟨nd, rfl⟩⟩) | (go_at_call 25; (with_reducible refine (impl_isTime.calls a0_2 t104 _ A8.out).mono ?_); rintro e w' ⟨rfl, ⟨nd, rfl⟩⟩))
    go_meet
    case rel => exact ⟨_, (!t104), zagbkp, H', ⟨zpacfg⟩, ⟨zkjhpm BK101.out⟩, ⟨zkmbdh⟩⟩
   replace c7 := Bool.eq_false_iff.mpr c7
   subst c7
   rw [if_neg fT_] at H
   have H' := aa H
   clear H
   obtain ⟨hcz10_0, hcz10_1, hcz10_2, hcz10_3, hfz10_0, hfz10_1, hfz10_2, hfz10_3⟩ := blk4_ BK101.out
   go_wp2_with (first | (refine gc_ Tryd.func24 (some 9) #[.int .i64 a0_0] ?_; (with_reducible refine (impl_isClient.calls a0_0 true _ A4.out).mono ?_); rintro e w' ⟨rfl, ⟨nd, rfl⟩⟩; refine ⟨_, rfl, ?_⟩) | (go_at_call 18; (with_reducible refine (impl_within.calls a0_1 1 99 false _ A6.out).mono ?_); rintro e w' ⟨rfl, ⟨nd, rfl⟩⟩))
   go_meet
   case rel => exact ⟨_, (true), zagbkp, H', ⟨zpacfg⟩, ⟨zkjhpm BK101.out⟩, ⟨zkmbdh⟩⟩
  replace c5 := Bool.eq_false_iff.mpr c5
  subst c5
  rw [if_neg fT_] at H
  have H' := aa H
  clear H
  obtain ⟨hcz11_0, hcz11_1, hcz11_2, hcz11_3, hfz11_0, hfz11_1, hfz11_2, hfz11_3⟩ := blk4_ BK101.out
  go_wp2_with (first | (refine gc_ Tryd.func24 (some 9) #[.int .i64 a0_0] ?_; (with_reducible refine (impl_isClient.calls a0_0 false _ A4.out).mono ?_); rintro e w' ⟨rfl, ⟨nd, rfl⟩⟩; refine ⟨_, rfl, ?_⟩))
  go_meet
  case rel => exact ⟨_, (true), zagbkp, H', ⟨zpacfg⟩, ⟨zkjhpm BK101.out⟩, ⟨zkmbdh⟩⟩
 case rest =>
  clear HC2
  try clear p2
  try clear c5
  try clear c7
  try clear hcz10_0
  try clear hcz10_1
  try clear hcz10_2
  try clear hcz10_3
  try clear hcz11_0
  try clear hcz11_1
  try clear hcz11_2
  try clear hcz11_3
  try clear hcz9_0
  try clear hcz9_1
  try clear hcz9_2
  try clear hcz9_3
  try clear hfz10_0
  try clear hfz10_1
  try clear hfz10_2
  try clear hfz10_3
  try clear hfz11_0
  try clear hfz11_1
  try clear hfz11_2
  try clear hfz11_3
  try clear hfz9_0
  try clear hfz9_1
  try clear hfz9_2
  try clear hfz9_3
  obtain ⟨kq, x6_1, rfl, HA, HJ1, BK101, HB⟩ := hcut
  cases kq with
  | zero => exact absurd HA.out (by simp [impl_RequestFault.j0])
  | succ kj1 =>
   have H := HA.out
   clear HA
   simp only [impl_RequestFault.j0] at H
   by_cases c12 : x6_1 = true
   ·
    subst c12
    rw [if_pos rfl] at H
    obtain rfl := Option.some.inj H
    go_wp2
    go_ret
    exact ⟨zlhpib, zkmbdh⟩
   ·
    replace c12 := Bool.eq_false_iff.mpr c12
    subst c12
    rw [if_neg fT_] at H
    revert H
    refine obs_ fun t105 A13 H => ?_
    by_cases c14 : t105 = true
    ·
     subst c14
     rw [if_pos rfl] at H
     have H' := aa H
     clear H
     obtain ⟨hcz15_0, hcz15_1, hcz15_2, hcz15_3, hfz15_0, hfz15_1, hfz15_2, hfz15_3⟩ := blk4_ BK101.out
     go_wp2_with (first | (refine gc_ Tryd.func18 (some 27) #[.int .i64 (l0_3.length : Int), .int .i64 1, .int .i64 3] ?_; (with_reducible refine (impl_within.calls (l0_3.length : Int) 1 3 true _ A13.out).mono ?_); rintro e w' ⟨rfl, ⟨nd, rfl⟩⟩; refine ⟨_, rfl, ?_⟩))
     go_loopg [32] kj1 (fun kq v32 w' => ∃ (x32_2 : Int), v32 = .int .i64 x32_2 ∧ Aside0 (impl_RequestFault.l0 kq l0_3 (l0_3.length : Int) x32_2 a0_0 a0_1 a0_2 l0_3 = some r) ∧ Aside0 (kq ≤ kj1) ∧ Aside0 (w'.heap[gb101]? = some (.cells #[.int .i64 a0_0, .int .i64 a0_1, .int .i64 a0_2, (.slice A0_3 l0_3.length c0_3)] 36 (0, 0))) ∧ Aside0 (Below w.heap.size w w'))
     case atStart => exact ⟨(0), zagbkp, H', ⟨Nat.le_refl _⟩, ⟨zkjhpm BK101.out⟩, ⟨zkmbdh⟩⟩
     case round =>
      clear H'
      try clear p2
      try clear c5
      try clear c7
      try clear c12
      try clear c14
      try clear hcz10_0
      try clear hcz10_1
      try clear hcz10_2
      try clear hcz10_3
      try clear hcz11_0
      try clear hcz11_1
      try clear hcz11_2
      try clear hcz11_3
      try clear hcz15_0
      try clear hcz15_1
      try clear hcz15_2
      try clear hcz15_3
      try clear hcz9_0
      try clear hcz9_1
      try clear hcz9_2
      try clear hcz9_3
      try clear hfz10_0
      try clear hfz10_1
      try clear hfz10_2
      try clear hfz10_3
      try clear hfz11_0
      try clear hfz11_1
      try clear hfz11_2
      try clear hfz11_3
      try clear hfz15_0
      try clear hfz15_1
      try clear hfz15_2
      try clear hfz15_3
      try clear hfz9_0
      try clear hfz9_1
      try clear hfz9_2
      try clear hfz9_3
      try clear p2
      obtain ⟨x32_2, rfl, HA, HK2, BK101, HB⟩ := hrel
      cases gk with
      | zero => exact absurd HA.out (by simp [impl_RequestFault.l0])
      | succ k2 =>
       have H := HA.out
       clear HA
       simp only [impl_RequestFault.l0] at H
       revert H
       refine itD_ (fun c16b0 H => ?_) fun c16b0 H => ?_
       ·
        revert H
        refine itH_ fun c17b0 H => ?_
        revert H
        refine itH_ fun c18b0 H => ?_
        revert H
        refine obs_ fun t108 A19 H => ?_
        revert H
        refine itE_ (fun c20b0 c20b1 H => ?_) fun c20b0 c20b1 H => ?_
        ·
         have H' := aa H
         clear H
         have p106 : 0 ≤ (x32_2 : Int) := of_decide_eq_true zgglam
         have q106 : x32_2 < (l0_3.length : Int) := of_decide_eq_true zgglam
         obtain ⟨ad106, e106, hx106_0, hx106_1, hx106_2, hx106_3, hx106_4, hx106_5⟩ := at_T26 HR0_3.out x32_2 p106 q106
         cases e106
         replace hx106_0 := pb HB.out hx106_0
         replace hx106_1 := pb HB.out hx106_1
         replace hx106_2 := pb HB.out hx106_2
         replace hx106_3 := pb HB.out hx106_3
         replace hx106_4 := pb HB.out hx106_4
         replace hx106_5 := pb HB.out hx106_5
         replace p106 := eq_true p106
         replace q106 := eq_true q106
         go_wp2_with (first | (refine be_ 4 #[.int .i64 0, .string (⟨#[]⟩ : ByteArray), .int .i64 0, .int .i64 0, .bool false, .bool false] 26 ?_; intro gb107 hg w21 hbox hb; have n0_ := aa (bb_ BK101.out hb); have n1_ := aa (below_step zkmbdh hb); have n2_ := aa (hbox); have n3_ := aa ((zmjkhl : w.heap.size ≤ gb107)); have n4_ := aa ((zmjkhl : w.heap.size ≤ gb107)); have n5_ := aa ((zlckhd : gb101 ≠ gb107)); have n6_ := aa ((zkmkcd : gb107 ≠ gb101)); clear BK101; clear HB; have BK101 := n0_; have HB := n1_; have BK107 := n2_; have GW107 := n3_; have GE107 := n4_; have NB101_107 := n5_; have NB107_101 := n6_; clear n0_ n1_ n2_ n3_ n4_ n5_ n6_; clear hb hbox hg; have hnb22 := NB107_101.out; have hnc22 := NB101_107.out; obtain ⟨hcz23_0, hcz23_1, hcz23_2, hcz23_3, hcz23_4, hcz23_5, hfz23_0, hfz23_1, hfz23_2, hfz23_3, hfz23_4, hfz23_5⟩ := blk6_ BK107.out) | (refine gc_ Tryd.func8 (some 37) #[.agg #[.int .i64 ((rd_T26 l0_3 x32_2).f0), .string ((rd_T26 l0_3 x32_2).f1), .int .i64 ((rd_T26 l0_3 x32_2).f2), .int .i64 ((rd_T26 l0_3 x32_2).f3), .bool ((rd_T26 l0_3 x32_2).f4), .bool ((rd_T26 l0_3 x32_2).f5)]] ?_; (with_reducible refine (impl_OpFault.calls k2 ((rd_T26 l0_3 x32_2).f0) ((rd_T26 l0_3 x32_2).f1) ((rd_T26 l0_3 x32_2).f2) ((rd_T26 l0_3 x32_2).f3) ((rd_T26 l0_3 x32_2).f4) ((rd_T26 l0_3 x32_2).f5) t108 _ A19.out).mono ?_); rintro e w24 ⟨rfl, hb⟩; refine ⟨_, rfl, ?_⟩; replace BK101 := aa (blk_below (g := gb101) (o := .cells #[.int .i64 a0_0, .int .i64 a0_1, .int .i64 a0_2, .slice (some ad106) l0_3.length c0_3] 36 (0, 0)) zmippe hb); replace BK107 := aa (blk_below (g := gb107) (o := .cells #[.int .i64 ((rd_T26 l0_3 x32_2).f0), .string ((rd_T26 l0_3 x32_2).f1), .int .i64 ((rd_T26 l0_3 x32_2).f2), .int .i64 ((rd_T26 l0_3 x32_2).f3), .bool ((rd_T26 l0_3 x32_2).f4), .bool ((rd_T26 l0_3 x32_2).f5)] 26 (0, 0)) zjjgek hb); replace HB := aa (below_step zbmjch hb); (try clear hb hk hi)))
         go_roundg k2
         case measure => have := HJ1.out; have := HK2.out; omega
         case rel => exact ⟨(wrap64 (x32_2 + 1)), zagbkp, H', ⟨by have := HJ1.out; have := HK2.out; omega⟩, ⟨zkjhpm BK101.out⟩, ⟨zbmjch⟩⟩
        obtain rfl := Option.some.inj H
        have p106 : 0 ≤ (x32_2 : Int) := of_decide_eq_true zgglam
        have q106 : x32_2 < (l0_3.length : Int) := of_decide_eq_true zgglam
        obtain ⟨ad106, e106, hx106_0, hx106_1, hx106_2, hx106_3, hx106_4, hx106_5⟩ := at_T26 HR0_3.out x32_2 p106 q106
        cases e106
        replace hx106_0 := pb HB.out hx106_0
        replace hx106_1 := pb HB.out hx106_1
        replace hx106_2 := pb HB.out hx106_2
        replace hx106_3 := pb HB.out hx106_3
        replace hx106_4 := pb HB.out hx106_4
        replace hx106_5 := pb HB.out hx106_5
        replace p106 := eq_true p106
        replace q106 := eq_true q106
        go_wp2_with (first | (refine be_ 4 #[.int .i64 0, .string (⟨#[]⟩ : ByteArray), .int .i64 0, .int .i64 0, .bool false, .bool false] 26 ?_; intro gb107 hg w25 hbox hb; have n0_ := aa (bb_ BK101.out hb); have n1_ := aa (below_step zkmbdh hb); have n2_ := aa (hbox); have n3_ := aa ((zmjkhl : w.heap.size ≤ gb107)); have n4_ := aa ((zmjkhl : w.heap.size ≤ gb107)); have n5_ := aa ((zlckhd : gb101 ≠ gb107)); have n6_ := aa ((zkmkcd : gb107 ≠ gb101)); clear BK101; clear HB; have BK101 := n0_; have HB := n1_; have BK107 := n2_; have GW107 := n3_; have GE107 := n4_; have NB101_107 := n5_; have NB107_101 := n6_; clear n0_ n1_ n2_ n3_ n4_ n5_ n6_; clear hb hbox hg; have hnb26 := NB107_101.out; have hnc26 := NB101_107.out; obtain ⟨hcz27_0, hcz27_1, hcz27_2, hcz27_3, hcz27_4, hcz27_5, hfz27_0, hfz27_1, hfz27_2, hfz27_3, hfz27_4, hfz27_5⟩ := blk6_ BK107.out) | (refine gc_ Tryd.func8 (some 37) #[.agg #[.int .i64 ((rd_T26 l0_3 x32_2).f0), .string ((rd_T26 l0_3 x32_2).f1), .int .i64 ((rd_T26 l0_3 x32_2).f2), .int .i64 ((rd_T26 l0_3 x32_2).f3), .bool ((rd_T26 l0_3 x32_2).f4), .bool ((rd_T26 l0_3 x32_2).f5)]] ?_; (with_reducible refine (impl_OpFault.calls k2 ((rd_T26 l0_3 x32_2).f0) ((rd_T26 l0_3 x32_2).f1) ((rd_T26 l0_3 x32_2).f2) ((rd_T26 l0_3 x32_2).f3) ((rd_T26 l0_3 x32_2).f4) ((rd_T26 l0_3 x32_2).f5) t108 _ A19.out).mono ?_); rintro e w28 ⟨rfl, hb⟩; refine ⟨_, rfl, ?_⟩; replace BK101 := aa (blk_below (g := gb101) (o := .cells #[.int .i64 a0_0, .int .i64 a0_1, .int .i64 a0_2, .slice (some ad106) l0_3.length c0_3] 36 (0, 0)) zmippe hb); replace BK107 := aa (blk_below (g := gb107) (o := .cells #[.int .i64 ((rd_T26 l0_3 x32_2).f0), .string ((rd_T26 l0_3 x32_2).f1), .int .i64 ((rd_T26 l0_3 x32_2).f2), .int .i64 ((rd_T26 l0_3 x32_2).f3), .bool ((rd_T26 l0_3 x32_2).f4), .bool ((rd_T26 l0_3 x32_2).f5)] 26 (0, 0)) zjjgek hb); replace HB := aa (below_step zbmjch hb); (try clear hb hk hi)))
        go_ret
        exact ⟨zlhpib, zbmjch⟩
       ·
        revert H
        refine itC_ (fun c29 H => ?_) fun c29 H => ?_
        ·
         have c29b0 : decide (1 < (l0_3.length : Int)) = true := decide_eq_true c29
         have c29b1 : decide (1 < l0_3.length) = true := decide_eq_true (by omega)
         clear c29
         revert H
         refine obs_ fun t109 A30 H => ?_
         by_cases c31 : t109 = true
         ·
          subst c31
          rw [if_pos rfl] at H
          obtain rfl := Option.some.inj H
          obtain ⟨hcz32_0, hcz32_1, hcz32_2, hcz32_3, hfz32_0, hfz32_1, hfz32_2, hfz32_3⟩ := blk4_ BK101.out
          go_wp2_with (first | (go_at_call 26; (with_reducible refine (slices_ContainsFunc_impl_Op_impl_Op.calls k2 _ _ l0_3  true _ zohcab HC0_3.out A30.out).mono ?_); rintro e w33 ⟨rfl, hb⟩; replace BK101 := aa (bb_ BK101.out hb); replace HB := aa (below_step zkmbdh hb); (try clear hb hk hi)))
          go_ret
          exact ⟨zlhpib, zkmbdh⟩
         replace c31 := Bool.eq_false_iff.mpr c31
         subst c31
         rw [if_neg fT_] at H
         obtain rfl := Option.some.inj H
         obtain ⟨hcz34_0, hcz34_1, hcz34_2, hcz34_3, hfz34_0, hfz34_1, hfz34_2, hfz34_3⟩ := blk4_ BK101.out
         go_wp2_with (first | (go_at_call 26; (with_reducible refine (slices_ContainsFunc_impl_Op_impl_Op.calls k2 _ _ l0_3  false _ zohcab HC0_3.out A30.out).mono ?_); rintro e w35 ⟨rfl, hb⟩; replace BK101 := aa (bb_ BK101.out hb); replace HB := aa (below_step zkmbdh hb); (try clear hb hk hi)))
         go_ret
         exact ⟨zlhpib, zkmbdh⟩
        have c29b0 : decide (1 < (l0_3.length : Int)) = false := decide_eq_false c29
        have c29b1 : decide (1 < l0_3.length) = false := decide_eq_false (by omega)
        clear c29
        obtain rfl := Option.some.inj H
        obtain ⟨hcz36_0, hcz36_1, hcz36_2, hcz36_3, hfz36_0, hfz36_1, hfz36_2, hfz36_3⟩ := blk4_ BK101.out
        go_wp2
        go_ret
        exact ⟨zlhpib, zkmbdh⟩
    replace c14 := Bool.eq_false_iff.mpr c14
    subst c14
    rw [if_neg fT_] at H
    obtain rfl := Option.some.inj H
    obtain ⟨hcz37_0, hcz37_1, hcz37_2, hcz37_3, hfz37_0, hfz37_1, hfz37_2, hfz37_3⟩ := blk4_ BK101.out
    go_wp2_with (first | (refine gc_ Tryd.func18 (some 27) #[.int .i64 (l0_3.length : Int), .int .i64 1, .int .i64 3] ?_; (with_reducible refine (impl_within.calls (l0_3.length : Int) 1 3 false _ A13.out).mono ?_); rintro e w' ⟨rfl, ⟨nd, rfl⟩⟩; refine ⟨_, rfl, ?_⟩))
    go_ret
    exact ⟨zlhpib, zkmbdh⟩
def laws_eqOp.f (a0_0 : Int) (a0_1 : ByteArray) (a0_2 : Int) (a0_3 : Int) (a0_4 : Bool) (a0_5 : Bool) (a1_0 : Int) (a1_1 : ByteArray) (a1_2 : Int) (a1_3 : Int) (a1_4 : Bool) (a1_5 : Bool) : Option (Bool) := if a0_0 = a1_0 then (if a0_1.toList = a1_1.toList then (if a0_2 = a1_2 then (if a0_3 = a1_3 then (if (a0_4 != a1_4) = true then (some false) else (if (a0_5 != a1_5) = true then (some false) else (some true))) else (some false)) else (some false)) else (some false)) else (some false)
theorem laws_eqOp.calls (a0_0 : Int) (a0_1 : ByteArray) (a0_2 : Int) (a0_3 : Int) (a0_4 : Bool) (a0_5 : Bool) (a1_0 : Int) (a1_1 : ByteArray) (a1_2 : Int) (a1_3 : Int) (a1_4 : Bool) (a1_5 : Bool) (r : Bool) (w : World) (h : laws_eqOp.f a0_0 a0_1 a0_2 a0_3 a0_4 a0_5 a1_0 a1_1 a1_2 a1_3 a1_4 a1_5 = some r) :
  Calls Tryd.prog 42 #[.agg #[.int .i64 a0_0, .string a0_1, .int .i64 a0_2, .int .i64 a0_3, .bool a0_4, .bool a0_5], .agg #[.int .i64 a1_0, .string a1_1, .int .i64 a1_2, .int .i64 a1_3, .bool a1_4, .bool a1_5]] w fun e w' => e = .returned (.bool r) ∧ Below w.heap.size w w' := by
 have hu26 := Tryd.underlying26
 have HB := aa (Below.refl w.heap.size w)
 have H : (if a0_0 = a1_0 then (if a0_1.toList = a1_1.toList then (if a0_2 = a1_2 then (if a0_3 = a1_3 then (if (a0_4 != a1_4) = true then (some false) else (if (a0_5 != a1_5) = true then (some false) else (some true))) else (some false)) else (some false)) else (some false)) else (some false)) = some r := h
 clear h
 revert H
 refine itE_ (fun c3b0 c3b1 H => ?_) fun c3b0 c3b1 H => ?_
 ·
  revert H
  refine itE_ (fun c4b0 c4b1 H => ?_) fun c4b0 c4b1 H => ?_
  ·
   revert H
   refine itE_ (fun c5b0 c5b1 H => ?_) fun c5b0 c5b1 H => ?_
   ·
    revert H
    refine itE_ (fun c6b0 c6b1 H => ?_) fun c6b0 c6b1 H => ?_
    ·
     revert H
     refine itC_ (fun c7 H => ?_) fun c7 H => ?_
     ·
      have c7b0 : (a0_4 != a1_4) = true := c7
      (try (have c7b1 : decide (a0_4 = a1_4) = false := by simpa using c7))
      (try (have c7b2 : (a0_4 == a1_4) = false := by simpa using c7))
      (try (have c7b3 : ¬ (a0_4 = a1_4) := by simpa using c7))
      clear c7
      obtain rfl := Option.some.inj H
      go_enter Tryd.func42, Tryd.ntmps42
      go_wp2_with (first | (refine be_ 2 #[.int .i64 a0_0, .string a0_1, .int .i64 a0_2, .int .i64 a0_3, .bool a0_4, .bool a0_5] 26 ?_; intro gb101 hg w8 hbox hb; have n0_ := aa (below_step zjjbob hb); have n1_ := aa (hbox); have n2_ := aa ((zkpfjp : w.heap.size ≤ gb101)); have n3_ := aa ((zkpfjp : w.heap.size ≤ gb101)); clear HB; have HB := n0_; have BK101 := n1_; have GW101 := n2_; have GE101 := n3_; clear n0_ n1_ n2_ n3_; clear hb hbox hg) | (refine be_ 3 #[.int .i64 a1_0, .string a1_1, .int .i64 a1_2, .int .i64 a1_3, .bool a1_4, .bool a1_5] 26 ?_; intro gb102 hg w9 hbox hb; have n0_ := aa (bb_ BK101.out hb); have n1_ := aa (below_step zkmbdh hb); have n2_ := aa (hbox); have n3_ := aa ((zmjkhl : w.heap.size ≤ gb102)); have n4_ := aa ((zmjkhl : w.heap.size ≤ gb102)); have n5_ := aa ((zgleoa : gb101 ≠ gb102)); have n6_ := aa ((zjjnpi : gb102 ≠ gb101)); clear BK101; clear HB; have BK101 := n0_; have HB := n1_; have BK102 := n2_; have GW102 := n3_; have GE102 := n4_; have NB101_102 := n5_; have NB102_101 := n6_; clear n0_ n1_ n2_ n3_ n4_ n5_ n6_; clear hb hbox hg; have hnb10 := NB101_102.out; have hnc10 := NB102_101.out; obtain ⟨hcz11_0, hcz11_1, hcz11_2, hcz11_3, hcz11_4, hcz11_5, hfz11_0, hfz11_1, hfz11_2, hfz11_3, hfz11_4, hfz11_5⟩ := blk6_ BK101.out; obtain ⟨hcz12_0, hcz12_1, hcz12_2, hcz12_3, hcz12_4, hcz12_5, hfz12_0, hfz12_1, hfz12_2, hfz12_3, hfz12_4, hfz12_5⟩ := blk6_ BK102.out))
      go_ret
      exact ⟨zlhpib, zgkbbl⟩
     have c7b0 : (a0_4 != a1_4) = false := by simpa using c7
     (try (have c7b1 : decide (a0_4 = a1_4) = true := by simpa using c7))
     (try (have c7b2 : (a0_4 == a1_4) = true := by simpa using c7))
     clear c7
     revert H
     refine itC_ (fun c13 H => ?_) fun c13 H => ?_
     ·
      have c13b0 : (a0_5 != a1_5) = true := c13
      (try (have c13b1 : decide (a0_5 = a1_5) = false := by simpa using c13))
      (try (have c13b2 : (a0_5 == a1_5) = false := by simpa using c13))
      (try (have c13b3 : ¬ (a0_5 = a1_5) := by simpa using c13))
      clear c13
      obtain rfl := Option.some.inj H
      go_enter Tryd.func42, Tryd.ntmps42
      go_wp2_with (first | (refine be_ 2 #[.int .i64 a0_0, .string a0_1, .int .i64 a0_2, .int .i64 a0_3, .bool a0_4, .bool a0_5] 26 ?_; intro gb101 hg w14 hbox hb; have n0_ := aa (below_step zjjbob hb); have n1_ := aa (hbox); have n2_ := aa ((zkpfjp : w.heap.size ≤ gb101)); have n3_ := aa ((zkpfjp : w.heap.size ≤ gb101)); clear HB; have HB := n0_; have BK101 := n1_; have GW101 := n2_; have GE101 := n3_; clear n0_ n1_ n2_ n3_; clear hb hbox hg) | (refine be_ 3 #[.int .i64 a1_0, .string a1_1, .int .i64 a1_2, .int .i64 a1_3, .bool a1_4, .bool a1_5] 26 ?_; intro gb102 hg w15 hbox hb; have n0_ := aa (bb_ BK101.out hb); have n1_ := aa (below_step zkmbdh hb); have n2_ := aa (hbox); have n3_ := aa ((zmjkhl : w.heap.size ≤ gb102)); have n4_ := aa ((zmjkhl : w.heap.size ≤ gb102)); have n5_ := aa ((zgleoa : gb101 ≠ gb102)); have n6_ := aa ((zjjnpi : gb102 ≠ gb101)); clear BK101; clear HB; have BK101 := n0_; have HB := n1_; have BK102 := n2_; have GW102 := n3_; have GE102 := n4_; have NB101_102 := n5_; have NB102_101 := n6_; clear n0_ n1_ n2_ n3_ n4_ n5_ n6_; clear hb hbox hg; have hnb16 := NB101_102.out; have hnc16 := NB102_101.out; obtain ⟨hcz17_0, hcz17_1, hcz17_2, hcz17_3, hcz17_4, hcz17_5, hfz17_0, hfz17_1, hfz17_2, hfz17_3, hfz17_4, hfz17_5⟩ := blk6_ BK101.out; obtain ⟨hcz18_0, hcz18_1, hcz18_2, hcz18_3, hcz18_4, hcz18_5, hfz18_0, hfz18_1, hfz18_2, hfz18_3, hfz18_4, hfz18_5⟩ := blk6_ BK102.out))
      go_ret
      exact ⟨zlhpib, zgkbbl⟩
     have c13b0 : (a0_5 != a1_5) = false := by simpa using c13
     (try (have c13b1 : decide (a0_5 = a1_5) = true := by simpa using c13))
     (try (have c13b2 : (a0_5 == a1_5) = true := by simpa using c13))
     clear c13
     obtain rfl := Option.some.inj H
     go_enter Tryd.func42, Tryd.ntmps42
     go_wp2_with (first | (refine be_ 2 #[.int .i64 a0_0, .string a0_1, .int .i64 a0_2, .int .i64 a0_3, .bool a0_4, .bool a0_5] 26 ?_; intro gb101 hg w19 hbox hb; have n0_ := aa (below_step zjjbob hb); have n1_ := aa (hbox); have n2_ := aa ((zkpfjp : w.heap.size ≤ gb101)); have n3_ := aa ((zkpfjp : w.heap.size ≤ gb101)); clear HB; have HB := n0_; have BK101 := n1_; have GW101 := n2_; have GE101 := n3_; clear n0_ n1_ n2_ n3_; clear hb hbox hg) | (refine be_ 3 #[.int .i64 a1_0, .string a1_1, .int .i64 a1_2, .int .i64 a1_3, .bool a1_4, .bool a1_5] 26 ?_; intro gb102 hg w20 hbox hb; have n0_ := aa (bb_ BK101.out hb); have n1_ := aa (below_step zkmbdh hb); have n2_ := aa (hbox); have n3_ := aa ((zmjkhl : w.heap.size ≤ gb102)); have n4_ := aa ((zmjkhl : w.heap.size ≤ gb102)); have n5_ := aa ((zgleoa : gb101 ≠ gb102)); have n6_ := aa ((zjjnpi : gb102 ≠ gb101)); clear BK101; clear HB; have BK101 := n0_; have HB := n1_; have BK102 := n2_; have GW102 := n3_; have GE102 := n4_; have NB101_102 := n5_; have NB102_101 := n6_; clear n0_ n1_ n2_ n3_ n4_ n5_ n6_; clear hb hbox hg; have hnb21 := NB101_102.out; have hnc21 := NB102_101.out; obtain ⟨hcz22_0, hcz22_1, hcz22_2, hcz22_3, hcz22_4, hcz22_5, hfz22_0, hfz22_1, hfz22_2, hfz22_3, hfz22_4, hfz22_5⟩ := blk6_ BK101.out; obtain ⟨hcz23_0, hcz23_1, hcz23_2, hcz23_3, hcz23_4, hcz23_5, hfz23_0, hfz23_1, hfz23_2, hfz23_3, hfz23_4, hfz23_5⟩ := blk6_ BK102.out))
     go_ret
     exact ⟨zlhpib, zgkbbl⟩
    obtain rfl := Option.some.inj H
    go_enter Tryd.func42, Tryd.ntmps42
    go_wp2_with (first | (refine be_ 2 #[.int .i64 a0_0, .string a0_1, .int .i64 a0_2, .int .i64 a0_3, .bool a0_4, .bool a0_5] 26 ?_; intro gb101 hg w24 hbox hb; have n0_ := aa (below_step zjjbob hb); have n1_ := aa (hbox); have n2_ := aa ((zkpfjp : w.heap.size ≤ gb101)); have n3_ := aa ((zkpfjp : w.heap.size ≤ gb101)); clear HB; have HB := n0_; have BK101 := n1_; have GW101 := n2_; have GE101 := n3_; clear n0_ n1_ n2_ n3_; clear hb hbox hg) | (refine be_ 3 #[.int .i64 a1_0, .string a1_1, .int .i64 a1_2, .int .i64 a1_3, .bool a1_4, .bool a1_5] 26 ?_; intro gb102 hg w25 hbox hb; have n0_ := aa (bb_ BK101.out hb); have n1_ := aa (below_step zkmbdh hb); have n2_ := aa (hbox); have n3_ := aa ((zmjkhl : w.heap.size ≤ gb102)); have n4_ := aa ((zmjkhl : w.heap.size ≤ gb102)); have n5_ := aa ((zgleoa : gb101 ≠ gb102)); have n6_ := aa ((zjjnpi : gb102 ≠ gb101)); clear BK101; clear HB; have BK101 := n0_; have HB := n1_; have BK102 := n2_; have GW102 := n3_; have GE102 := n4_; have NB101_102 := n5_; have NB102_101 := n6_; clear n0_ n1_ n2_ n3_ n4_ n5_ n6_; clear hb hbox hg; have hnb26 := NB101_102.out; have hnc26 := NB102_101.out; obtain ⟨hcz27_0, hcz27_1, hcz27_2, hcz27_3, hcz27_4, hcz27_5, hfz27_0, hfz27_1, hfz27_2, hfz27_3, hfz27_4, hfz27_5⟩ := blk6_ BK101.out; obtain ⟨hcz28_0, hcz28_1, hcz28_2, hcz28_3, hcz28_4, hcz28_5, hfz28_0, hfz28_1, hfz28_2, hfz28_3, hfz28_4, hfz28_5⟩ := blk6_ BK102.out))
    go_ret
    exact ⟨zlhpib, zgkbbl⟩
   obtain rfl := Option.some.inj H
   go_enter Tryd.func42, Tryd.ntmps42
   go_wp2_with (first | (refine be_ 2 #[.int .i64 a0_0, .string a0_1, .int .i64 a0_2, .int .i64 a0_3, .bool a0_4, .bool a0_5] 26 ?_; intro gb101 hg w29 hbox hb; have n0_ := aa (below_step zjjbob hb); have n1_ := aa (hbox); have n2_ := aa ((zkpfjp : w.heap.size ≤ gb101)); have n3_ := aa ((zkpfjp : w.heap.size ≤ gb101)); clear HB; have HB := n0_; have BK101 := n1_; have GW101 := n2_; have GE101 := n3_; clear n0_ n1_ n2_ n3_; clear hb hbox hg) | (refine be_ 3 #[.int .i64 a1_0, .string a1_1, .int .i64 a1_2, .int .i64 a1_3, .bool a1_4, .bool a1_5] 26 ?_; intro gb102 hg w30 hbox hb; have n0_ := aa (bb_ BK101.out hb); have n1_ := aa (below_step zkmbdh hb); have n2_ := aa (hbox); have n3_ := aa ((zmjkhl : w.heap.size ≤ gb102)); have n4_ := aa ((zmjkhl : w.heap.size ≤ gb102)); have n5_ := aa ((zgleoa : gb101 ≠ gb102)); have n6_ := aa ((zjjnpi : gb102 ≠ gb101)); clear BK101; clear HB; have BK101 := n0_; have HB := n1_; have BK102 := n2_; have GW102 := n3_; have GE102 := n4_; have NB101_102 := n5_; have NB102_101 := n6_; clear n0_ n1_ n2_ n3_ n4_ n5_ n6_; clear hb hbox hg; have hnb31 := NB101_102.out; have hnc31 := NB102_101.out; obtain ⟨hcz32_0, hcz32_1, hcz32_2, hcz32_3, hcz32_4, hcz32_5, hfz32_0, hfz32_1, hfz32_2, hfz32_3, hfz32_4, hfz32_5⟩ := blk6_ BK101.out; obtain ⟨hcz33_0, hcz33_1, hcz33_2, hcz33_3, hcz33_4, hcz33_5, hfz33_0, hfz33_1, hfz33_2, hfz33_3, hfz33_4, hfz33_5⟩ := blk6_ BK102.out))
   go_ret
   exact ⟨zlhpib, zgkbbl⟩
  obtain rfl := Option.some.inj H
  go_enter Tryd.func42, Tryd.ntmps42
  go_wp2_with (first | (refine be_ 2 #[.int .i64 a0_0, .string a0_1, .int .i64 a0_2, .int .i64 a0_3, .bool a0_4, .bool a0_5] 26 ?_; intro gb101 hg w34 hbox hb; have n0_ := aa (below_step zjjbob hb); have n1_ := aa (hbox); have n2_ := aa ((zkpfjp : w.heap.size ≤ gb101)); have n3_ := aa ((zkpfjp : w.heap.size ≤ gb101)); clear HB; have HB := n0_; have BK101 := n1_; have GW101 := n2_; have GE101 := n3_; clear n0_ n1_ n2_ n3_; clear hb hbox hg) | (refine be_ 3 #[.int .i64 a1_0, .string a1_1, .int .i64 a1_2, .int .i64 a1_3, .bool a1_4, .bool a1_5] 26 ?_; intro gb102 hg w35 hbox hb; have n0_ := aa (bb_ BK101.out hb); have n1_ := aa (below_step zkmbdh hb); have n2_ := aa (hbox); have n3_ := aa ((zmjkhl : w.heap.size ≤ gb102)); have n4_ := aa ((zmjkhl : w.heap.size ≤ gb102)); have n5_ := aa ((zgleoa : gb101 ≠ gb102)); have n6_ := aa ((zjjnpi : gb102 ≠ gb101)); clear BK101; clear HB; have BK101 := n0_; have HB := n1_; have BK102 := n2_; have GW102 := n3_; have GE102 := n4_; have NB101_102 := n5_; have NB102_101 := n6_; clear n0_ n1_ n2_ n3_ n4_ n5_ n6_; clear hb hbox hg; have hnb36 := NB101_102.out; have hnc36 := NB102_101.out; obtain ⟨hcz37_0, hcz37_1, hcz37_2, hcz37_3, hcz37_4, hcz37_5, hfz37_0, hfz37_1, hfz37_2, hfz37_3, hfz37_4, hfz37_5⟩ := blk6_ BK101.out; obtain ⟨hcz38_0, hcz38_1, hcz38_2, hcz38_3, hcz38_4, hcz38_5, hfz38_0, hfz38_1, hfz38_2, hfz38_3, hfz38_4, hfz38_5⟩ := blk6_ BK102.out))
  go_ret
  exact ⟨zlhpib, zgkbbl⟩
 obtain rfl := Option.some.inj H
 go_enter Tryd.func42, Tryd.ntmps42
 go_wp2_with (first | (refine be_ 2 #[.int .i64 a0_0, .string a0_1, .int .i64 a0_2, .int .i64 a0_3, .bool a0_4, .bool a0_5] 26 ?_; intro gb101 hg w39 hbox hb; have n0_ := aa (below_step zjjbob hb); have n1_ := aa (hbox); have n2_ := aa ((zkpfjp : w.heap.size ≤ gb101)); have n3_ := aa ((zkpfjp : w.heap.size ≤ gb101)); clear HB; have HB := n0_; have BK101 := n1_; have GW101 := n2_; have GE101 := n3_; clear n0_ n1_ n2_ n3_; clear hb hbox hg) | (refine be_ 3 #[.int .i64 a1_0, .string a1_1, .int .i64 a1_2, .int .i64 a1_3, .bool a1_4, .bool a1_5] 26 ?_; intro gb102 hg w40 hbox hb; have n0_ := aa (bb_ BK101.out hb); have n1_ := aa (below_step zkmbdh hb); have n2_ := aa (hbox); have n3_ := aa ((zmjkhl : w.heap.size ≤ gb102)); have n4_ := aa ((zmjkhl : w.heap.size ≤ gb102)); have n5_ := aa ((zgleoa : gb101 ≠ gb102)); have n6_ := aa ((zjjnpi : gb102 ≠ gb101)); clear BK101; clear HB; have BK101 := n0_; have HB := n1_; have BK102 := n2_; have GW102 := n3_; have GE102 := n4_; have NB101_102 := n5_; have NB102_101 := n6_; clear n0_ n1_ n2_ n3_ n4_ n5_ n6_; clear hb hbox hg; have hnb41 := NB101_102.out; have hnc41 := NB102_101.out; obtain ⟨hcz42_0, hcz42_1, hcz42_2, hcz42_3, hcz42_4, hcz42_5, hfz42_0, hfz42_1, hfz42_2, hfz42_3, hfz42_4, hfz42_5⟩ := blk6_ BK101.out; obtain ⟨hcz43_0, hcz43_1, hcz43_2, hcz43_3, hcz43_4, hcz43_5, hfz43_0, hfz43_1, hfz43_2, hfz43_3, hfz43_4, hfz43_5⟩ := blk6_ BK102.out))
 go_ret
 exact ⟨zlhpib, zgkbbl⟩
def laws_eqOpS.l0 : Nat → List (S26) → List (S26) → Int → Option (Bool)
 | 0, _, _, _ => none
 | k + 1, x0, x1, x5 => if x5 < (x0.length : Int) then (if 0 ≤ x5 then (if x5 < (x1.length : Int) then ((laws_eqOp.f ((rd_T26 x0 x5).f0) ((rd_T26 x0 x5).f1) ((rd_T26 x0 x5).f2) ((rd_T26 x0 x5).f3) ((rd_T26 x0 x5).f4) ((rd_T26 x0 x5).f5) ((rd_T26 x1 x5).f0) ((rd_T26 x1 x5).f1) ((rd_T26 x1 x5).f2) ((rd_T26 x1 x5).f3) ((rd_T26 x1 x5).f4) ((rd_T26 x1 x5).f5)).bind fun t103 => (if t103 = true then (laws_eqOpS.l0 k x0 x1 (wrap64 (x5 + 1))) else (some false))) else (none)) else (none)) else (some true)
def laws_eqOpS.f (k : Nat) (l0 : List (S26)) (l1 : List (S26)) : Option (Bool) := if (l0.length : Int) = (l1.length : Int) then (laws_eqOpS.l0 k l0 l1 0) else (some false)
theorem laws_eqOpS.mono_l : ∀ k, (∀ y0 y1 y2, LeO (laws_eqOpS.l0 k y0 y1 y2) (laws_eqOpS.l0 (k + 1) y0 y1 y2))
 | 0 => fun _ _ _ r h => by simp [laws_eqOpS.l0] at h
 | k + 1 => by
  have ih0 := laws_eqOpS.mono_l k
  ·
   intro y0 y1 y2
   unfold laws_eqOpS.l0
   with_reducible repeat' first | exact ih0 _ _ _ | exact LeO.refl _ | exact LeO.none _ | refine LeO.ite ?_ ?_ | refine LeO.bind ?_ (fun _ => ?_)
theorem laws_eqOpS.mono : ∀ a0 a1 k, LeO (laws_eqOpS.f k a0 a1) (laws_eqOpS.f (k + 1) a0 a1) := by
 intro a0 a1 k
 have ih0 := laws_eqOpS.mono_l k
 unfold laws_eqOpS.f
 with_reducible repeat' first | exact ih0 _ _ _ | exact LeO.refl _ | exact LeO.none _ | refine LeO.ite ?_ ?_ | refine LeO.bind ?_ (fun _ => ?_)
def laws_eqOpS.T6 : Bool × List (List Nat × List Nat) := (true, [([], []), ([], []), ([0, 1], [0, 1]), ([2], [2]), ([], []), ([], []), ([4, 5], [4, 5]), ([6], [6]), ([3, 7], [3, 7]), ([8], [8])])
def laws_eqOpS.B6 : List Nat := [0, 0, 3, 7, 0, 0, 48, 112, 255, 511]
theorem laws_eqOpS.tab6 : rtab .any (opsOf Tryd.f28 6) = laws_eqOpS.T6 := by kernel_rfl
theorem laws_eqOpS.bits6 : waitsOk laws_eqOpS.T6.2 laws_eqOpS.B6 = true := by kernel_rfl
theorem laws_eqOpS.calls (k : Nat) (A0 : Option Addr) (c0 : Nat) (l0 : List (S26)) (A1 : Option Addr) (c1 : Nat) (l1 : List (S26)) (r : Bool) (w : World) (hr0 : Kd.C k26 w A0 l0.length l0) (hc0 : l0.length ≤ c0) (hr1 : Kd.C k26 w A1 l1.length l1) (hc1 : l1.length ≤ c1) (h : laws_eqOpS.f k l0 l1 = some r) :
  Calls Tryd.prog 28 #[.slice A0 l0.length c0, .slice A1 l1.length c1] w fun e w' => e = .returned (.bool r) ∧ Below w.heap.size w w' := by
 have hu26 := Tryd.underlying26
 have HR0 := aa hr0
 have HC0 := aa hc0
 clear hr0 hc0
 have HR1 := aa hr1
 have HC1 := aa hc1
 clear hr1 hc1
 have HB := aa (Below.refl w.heap.size w)
 have H : (if (l0.length : Int) = (l1.length : Int) then (laws_eqOpS.l0 k l0 l1 0) else (some false)) = some r := h
 clear h
 revert H
 refine itC_ (fun c3 H => ?_) fun c3 H => ?_
 ·
  have c3b0 := beq_iff_eq.mpr c3
  have c3b1 := bne_eq_false_iff_eq.mpr c3
  have c3b2 : (l0.length == l1.length) = true := by first | simpa using c3 | (simp at c3 ⊢; omega)
  clear c3
  have H' := aa H
  clear H
  go_enter Tryd.func28, Tryd.ntmps28
  go_wp2
  go_loopg [5] k (fun kq v5 w' => ∃ (x5_1 : Int), v5 = .int .i64 x5_1 ∧ Aside0 (laws_eqOpS.l0 kq l0 l1 x5_1 = some r) ∧ Aside0 (kq ≤ k) ∧ Aside0 (Below w.heap.size w w'))
  case atStart => exact ⟨(0), zagbkp, H', ⟨Nat.le_refl _⟩, ⟨zjjbob⟩⟩
  case round =>
   clear H'
   try clear p2
   try clear c3
   try clear c3b0
   try clear c3b1
   try clear c3b2
   obtain ⟨x5_1, rfl, HA, HK1, HB⟩ := hrel
   cases gk with
   | zero => exact absurd HA.out (by simp [laws_eqOpS.l0])
   | succ k1 =>
    have H := HA.out
    clear HA
    simp only [laws_eqOpS.l0] at H
    revert H
    refine itD_ (fun c4b0 H => ?_) fun c4b0 H => ?_
    ·
     revert H
     refine itH_ fun c5b0 H => ?_
     revert H
     refine itH_ fun c6b0 H => ?_
     revert H
     refine obs_ fun t103 A7 H => ?_
     by_cases c8 : t103 = true
     ·
      subst c8
      rw [if_pos rfl] at H
      have H' := aa H
      clear H
      try go_wp2
      replace HB := aa (below_drew1 HB.out)
      have p101 : 0 ≤ (x5_1 : Int) := of_decide_eq_true zgglam
      have q101 : x5_1 < (l0.length : Int) := of_decide_eq_true zgglam
      obtain ⟨ad101, e101, hx101_0, hx101_1, hx101_2, hx101_3, hx101_4, hx101_5⟩ := at_T26 HR0.out x5_1 p101 q101
      have hw101_5 := hx101_5
      have hw101_4 := hx101_4
      have hw101_3 := hx101_3
      have hw101_2 := hx101_2
      have hw101_1 := hx101_1
      have hw101_0 := hx101_0
      cases e101
      replace hx101_0 := pb HB.out hx101_0
      replace hx101_1 := pb HB.out hx101_1
      replace hx101_2 := pb HB.out hx101_2
      replace hx101_3 := pb HB.out hx101_3
      replace hx101_4 := pb HB.out hx101_4
      replace hx101_5 := pb HB.out hx101_5
      replace p101 := eq_true p101
      replace q101 := eq_true q101
      have p102 : 0 ≤ (x5_1 : Int) := of_decide_eq_true zgglam
      have q102 : x5_1 < (l1.length : Int) := of_decide_eq_true zgglam
      obtain ⟨ad102, e102, hx102_0, hx102_1, hx102_2, hx102_3, hx102_4, hx102_5⟩ := at_T26 HR1.out x5_1 p102 q102
      have hw102_5 := hx102_5
      have hw102_4 := hx102_4
      have hw102_3 := hx102_3
      have hw102_2 := hx102_2
      have hw102_1 := hx102_1
      have hw102_0 := hx102_0
      cases e102
      replace hx102_0 := pb HB.out hx102_0
      replace hx102_1 := pb HB.out hx102_1
      replace hx102_2 := pb HB.out hx102_2
      replace hx102_3 := pb HB.out hx102_3
      replace hx102_4 := pb HB.out hx102_4
      replace hx102_5 := pb HB.out hx102_5
      replace p102 := eq_true p102
      replace q102 := eq_true q102
      refine start_ (n := 10) (S := fun w' => w'.cell? (ad101.add ((x5_1).toNat * 6)) = some (.int .i64 ((rd_T26 l0 x5_1).f0)) ∧ w'.cell? ⟨(ad101.add ((x5_1).toNat * 6)).block, (ad101.add ((x5_1).toNat * 6)).off + 1, none⟩ = some (.string ((rd_T26 l0 x5_1).f1)) ∧ w'.cell? ⟨(ad101.add ((x5_1).toNat * 6)).block, (ad101.add ((x5_1).toNat * 6)).off + 2, none⟩ = some (.int .i64 ((rd_T26 l0 x5_1).f2)) ∧ w'.cell? ⟨(ad101.add ((x5_1).toNat * 6)).block, (ad101.add ((x5_1).toNat * 6)).off + 3, none⟩ = some (.int .i64 ((rd_T26 l0 x5_1).f3)) ∧ w'.cell? ⟨(ad101.add ((x5_1).toNat * 6)).block, (ad101.add ((x5_1).toNat * 6)).off + 4, none⟩ = some (.bool ((rd_T26 l0 x5_1).f4)) ∧ w'.cell? ⟨(ad101.add ((x5_1).toNat * 6)).block, (ad101.add ((x5_1).toNat * 6)).off + 5, none⟩ = some (.bool ((rd_T26 l0 x5_1).f5)) ∧ w'.cell? (ad102.add ((x5_1).toNat * 6)) = some (.int .i64 ((rd_T26 l1 x5_1).f0)) ∧ w'.cell? ⟨(ad102.add ((x5_1).toNat * 6)).block, (ad102.add ((x5_1).toNat * 6)).off + 1, none⟩ = some (.string ((rd_T26 l1 x5_1).f1)) ∧ w'.cell? ⟨(ad102.add ((x5_1).toNat * 6)).block, (ad102.add ((x5_1).toNat * 6)).off + 2, none⟩ = some (.int .i64 ((rd_T26 l1 x5_1).f2)) ∧ w'.cell? ⟨(ad102.add ((x5_1).toNat * 6)).block, (ad102.add ((x5_1).toNat * 6)).off + 3, none⟩ = some (.int .i64 ((rd_T26 l1 x5_1).f3)) ∧ w'.cell? ⟨(ad102.add ((x5_1).toNat * 6)).block, (ad102.add ((x5_1).toNat * 6)).off + 4, none⟩ = some (.bool ((rd_T26 l1 x5_1).f4)) ∧ w'.cell? ⟨(ad102.add ((x5_1).toNat * 6)).block, (ad102.add ((x5_1).toNat * 6)).off + 5, none⟩ = some (.bool ((rd_T26 l1 x5_1).f5))) (ds := []) #[false, false, false, false, false, false, false, false, false, false] (by kernel_rfl) rfl rfl ⟨((HB.out.cell (World.block_lt_of_cell? w _ hw101_0)).trans hw101_0), ((HB.out.cell (World.block_lt_of_cell? w _ hw101_1)).trans hw101_1), ((HB.out.cell (World.block_lt_of_cell? w _ hw101_2)).trans hw101_2), ((HB.out.cell (World.block_lt_of_cell? w _ hw101_3)).trans hw101_3), ((HB.out.cell (World.block_lt_of_cell? w _ hw101_4)).trans hw101_4), ((HB.out.cell (World.block_lt_of_cell? w _ hw101_5)).trans hw101_5), ((HB.out.cell (World.block_lt_of_cell? w _ hw102_0)).trans hw102_0), ((HB.out.cell (World.block_lt_of_cell? w _ hw102_1)).trans hw102_1), ((HB.out.cell (World.block_lt_of_cell? w _ hw102_2)).trans hw102_2), ((HB.out.cell (World.block_lt_of_cell? w _ hw102_3)).trans hw102_3), ((HB.out.cell (World.block_lt_of_cell? w _ hw102_4)).trans hw102_4), ((HB.out.cell (World.block_lt_of_cell? w _ hw102_5)).trans hw102_5)⟩ (fun hHeld => ?_); refine with_tabW laws_eqOpS.tab6 laws_eqOpS.bits6 (fun HT_ HW_ => ?_)
      generalize wr.drew = w9 at HB hx101_0 hx101_1 hx101_2 hx101_3 hx101_4 hx101_5 hx102_0 hx102_1 hx102_2 hx102_3 hx102_4 hx102_5 hHeld ⊢
      refine pu0 0 17 ?_
      refine pu0 1 18 ?_
      refine pu0 2 19 ?_
      refine pu0 4 21 ?_
      refine pu0 5 22 ?_
      refine pu0 6 23 ?_
      refine tk12_0 3 20 ?_
      refine tk12_0 7 24 ?_
      refine one_ (i := 8) (N := some 25) #[true, true, true, true, true, true, true, true, true, false] rfl rfl (one_of HT_.out (by kernel_rfl)) (by decide) (fun K hK => ?_)
      refine goes_ Tryd.func42 (by kernel_rfl) rfl #[.agg #[.int .i64 ((rd_T26 l0 x5_1).f0), .string ((rd_T26 l0 x5_1).f1), .int .i64 ((rd_T26 l0 x5_1).f2), .int .i64 ((rd_T26 l0 x5_1).f3), .bool ((rd_T26 l0 x5_1).f4), .bool ((rd_T26 l0 x5_1).f5)], .agg #[.int .i64 ((rd_T26 l1 x5_1).f0), .string ((rd_T26 l1 x5_1).f1), .int .i64 ((rd_T26 l1 x5_1).f2), .int .i64 ((rd_T26 l1 x5_1).f3), .bool ((rd_T26 l1 x5_1).f4), .bool ((rd_T26 l1 x5_1).f5)]] (by rfl) rfl rfl zjnmae ?_
      with_reducible refine (laws_eqOp.calls ((rd_T26 l0 x5_1).f0) ((rd_T26 l0 x5_1).f1) ((rd_T26 l0 x5_1).f2) ((rd_T26 l0 x5_1).f3) ((rd_T26 l0 x5_1).f4) ((rd_T26 l0 x5_1).f5) ((rd_T26 l1 x5_1).f0) ((rd_T26 l1 x5_1).f1) ((rd_T26 l1 x5_1).f2) ((rd_T26 l1 x5_1).f3) ((rd_T26 l1 x5_1).f4) ((rd_T26 l1 x5_1).f5) true _ A7.out).mono ?_
      rintro e w10 ⟨rfl, hb⟩
      refine ⟨_, rfl, ?_⟩
      replace HB := aa (below_step zjjbob hb)
      (try clear hb)
      (try clear hb2)
      (try clear hk)
      (try clear hi)
      refine hK.out _ _ ⟨((HB.out.cell (World.block_lt_of_cell? w _ hw101_0)).trans hw101_0), ((HB.out.cell (World.block_lt_of_cell? w _ hw101_1)).trans hw101_1), ((HB.out.cell (World.block_lt_of_cell? w _ hw101_2)).trans hw101_2), ((HB.out.cell (World.block_lt_of_cell? w _ hw101_3)).trans hw101_3), ((HB.out.cell (World.block_lt_of_cell? w _ hw101_4)).trans hw101_4), ((HB.out.cell (World.block_lt_of_cell? w _ hw101_5)).trans hw101_5), ((HB.out.cell (World.block_lt_of_cell? w _ hw102_0)).trans hw102_0), ((HB.out.cell (World.block_lt_of_cell? w _ hw102_1)).trans hw102_1), ((HB.out.cell (World.block_lt_of_cell? w _ hw102_2)).trans hw102_2), ((HB.out.cell (World.block_lt_of_cell? w _ hw102_3)).trans hw102_3), ((HB.out.cell (World.block_lt_of_cell? w _ hw102_4)).trans hw102_4), ((HB.out.cell (World.block_lt_of_cell? w _ hw102_5)).trans hw102_5)⟩ (fun hHeld => ?_)
      clear hK K
      refine norm_ (a' := ?_) ?_ ?_
      rotate_left
      ·
       show Act.put _ (some 25) _ = _
       simp only [Act.put, List.setIfInBounds_toArray, List.set_cons_zero, List.set_cons_succ, i64_w, i32_w]
       rfl
      refine pu0 9 26 ?_
      refine done_ (done_of HT_.out (by kernel_rfl)) ?_
      try go_wp2
      go_roundg k1
      case measure => have := HK1.out; omega
      case rel => exact ⟨(wrap64 (x5_1 + 1)), zagbkp, H', ⟨by have := HK1.out; omega⟩, ⟨zjjbob⟩⟩
     replace c8 := Bool.eq_false_iff.mpr c8
     subst c8
     rw [if_neg fT_] at H
     obtain rfl := Option.some.inj H
     try go_wp2
     replace HB := aa (below_drew1 HB.out)
     have p101 : 0 ≤ (x5_1 : Int) := of_decide_eq_true zgglam
     have q101 : x5_1 < (l0.length : Int) := of_decide_eq_true zgglam
     obtain ⟨ad101, e101, hx101_0, hx101_1, hx101_2, hx101_3, hx101_4, hx101_5⟩ := at_T26 HR0.out x5_1 p101 q101
     have hw101_5 := hx101_5
     have hw101_4 := hx101_4
     have hw101_3 := hx101_3
     have hw101_2 := hx101_2
     have hw101_1 := hx101_1
     have hw101_0 := hx101_0
     cases e101
     replace hx101_0 := pb HB.out hx101_0
     replace hx101_1 := pb HB.out hx101_1
     replace hx101_2 := pb HB.out hx101_2
     replace hx101_3 := pb HB.out hx101_3
     replace hx101_4 := pb HB.out hx101_4
     replace hx101_5 := pb HB.out hx101_5
     replace p101 := eq_true p101
     replace q101 := eq_true q101
     have p102 : 0 ≤ (x5_1 : Int) := of_decide_eq_true zgglam
     have q102 : x5_1 < (l1.length : Int) := of_decide_eq_true zgglam
     obtain ⟨ad102, e102, hx102_0, hx102_1, hx102_2, hx102_3, hx102_4, hx102_5⟩ := at_T26 HR1.out x5_1 p102 q102
     have hw102_5 := hx102_5
     have hw102_4 := hx102_4
     have hw102_3 := hx102_3
     have hw102_2 := hx102_2
     have hw102_1 := hx102_1
     have hw102_0 := hx102_0
     cases e102
     replace hx102_0 := pb HB.out hx102_0
     replace hx102_1 := pb HB.out hx102_1
     replace hx102_2 := pb HB.out hx102_2
     replace hx102_3 := pb HB.out hx102_3
     replace hx102_4 := pb HB.out hx102_4
     replace hx102_5 := pb HB.out hx102_5
     replace p102 := eq_true p102
     replace q102 := eq_true q102
     refine start_ (n := 10) (S := fun w' => w'.cell? (ad101.add ((x5_1).toNat * 6)) = some (.int .i64 ((rd_T26 l0 x5_1).f0)) ∧ w'.cell? ⟨(ad101.add ((x5_1).toNat * 6)).block, (ad101.add ((x5_1).toNat * 6)).off + 1, none⟩ = some (.string ((rd_T26 l0 x5_1).f1)) ∧ w'.cell? ⟨(ad101.add ((x5_1).toNat * 6)).block, (ad101.add ((x5_1).toNat * 6)).off + 2, none⟩ = some (.int .i64 ((rd_T26 l0 x5_1).f2)) ∧ w'.cell? ⟨(ad101.add ((x5_1).toNat * 6)).block, (ad101.add ((x5_1).toNat * 6)).off + 3, none⟩ = some (.int .i64 ((rd_T26 l0 x5_1).f3)) ∧ w'.cell? ⟨(ad101.add ((x5_1).toNat * 6)).block, (ad101.add ((x5_1).toNat * 6)).off + 4, none⟩ = some (.bool ((rd_T26 l0 x5_1).f4)) ∧ w'.cell? ⟨(ad101.add ((x5_1).toNat * 6)).block, (ad101.add ((x5_1).toNat * 6)).off + 5, none⟩ = some (.bool ((rd_T26 l0 x5_1).f5)) ∧ w'.cell? (ad102.add ((x5_1).toNat * 6)) = some (.int .i64 ((rd_T26 l1 x5_1).f0)) ∧ w'.cell? ⟨(ad102.add ((x5_1).toNat * 6)).block, (ad102.add ((x5_1).toNat * 6)).off + 1, none⟩ = some (.string ((rd_T26 l1 x5_1).f1)) ∧ w'.cell? ⟨(ad102.add ((x5_1).toNat * 6)).block, (ad102.add ((x5_1).toNat * 6)).off + 2, none⟩ = some (.int .i64 ((rd_T26 l1 x5_1).f2)) ∧ w'.cell? ⟨(ad102.add ((x5_1).toNat * 6)).block, (ad102.add ((x5_1).toNat * 6)).off + 3, none⟩ = some (.int .i64 ((rd_T26 l1 x5_1).f3)) ∧ w'.cell? ⟨(ad102.add ((x5_1).toNat * 6)).block, (ad102.add ((x5_1).toNat * 6)).off + 4, none⟩ = some (.bool ((rd_T26 l1 x5_1).f4)) ∧ w'.cell? ⟨(ad102.add ((x5_1).toNat * 6)).block, (ad102.add ((x5_1).toNat * 6)).off + 5, none⟩ = some (.bool ((rd_T26 l1 x5_1).f5))) (ds := []) #[false, false, false, false, false, false, false, false, false, false] (by kernel_rfl) rfl rfl ⟨((HB.out.cell (World.block_lt_of_cell? w _ hw101_0)).trans hw101_0), ((HB.out.cell (World.block_lt_of_cell? w _ hw101_1)).trans hw101_1), ((HB.out.cell (World.block_lt_of_cell? w _ hw101_2)).trans hw101_2), ((HB.out.cell (World.block_lt_of_cell? w _ hw101_3)).trans hw101_3), ((HB.out.cell (World.block_lt_of_cell? w _ hw101_4)).trans hw101_4), ((HB.out.cell (World.block_lt_of_cell? w _ hw101_5)).trans hw101_5), ((HB.out.cell (World.block_lt_of_cell? w _ hw102_0)).trans hw102_0), ((HB.out.cell (World.block_lt_of_cell? w _ hw102_1)).trans hw102_1), ((HB.out.cell (World.block_lt_of_cell? w _ hw102_2)).trans hw102_2), ((HB.out.cell (World.block_lt_of_cell? w _ hw102_3)).trans hw102_3), ((HB.out.cell (World.block_lt_of_cell? w _ hw102_4)).trans hw102_4), ((HB.out.cell (World.block_lt_of_cell? w _ hw102_5)).trans hw102_5)⟩ (fun hHeld => ?_); refine with_tabW laws_eqOpS.tab6 laws_eqOpS.bits6 (fun HT_ HW_ => ?_)
     generalize wr.drew = w11 at HB hx101_0 hx101_1 hx101_2 hx101_3 hx101_4 hx101_5 hx102_0 hx102_1 hx102_2 hx102_3 hx102_4 hx102_5 hHeld ⊢
     refine pu0 0 17 ?_
     refine pu0 1 18 ?_
     refine pu0 2 19 ?_
     refine pu0 4 21 ?_
     refine pu0 5 22 ?_
     refine pu0 6 23 ?_
     refine tk12_0 3 20 ?_
     refine tk12_0 7 24 ?_
     refine one_ (i := 8) (N := some 25) #[true, true, true, true, true, true, true, true, true, false] rfl rfl (one_of HT_.out (by kernel_rfl)) (by decide) (fun K hK => ?_)
     refine goes_ Tryd.func42 (by kernel_rfl) rfl #[.agg #[.int .i64 ((rd_T26 l0 x5_1).f0), .string ((rd_T26 l0 x5_1).f1), .int .i64 ((rd_T26 l0 x5_1).f2), .int .i64 ((rd_T26 l0 x5_1).f3), .bool ((rd_T26 l0 x5_1).f4), .bool ((rd_T26 l0 x5_1).f5)], .agg #[.int .i64 ((rd_T26 l1 x5_1).f0), .string ((rd_T26 l1 x5_1).f1), .int .i64 ((rd_T26 l1 x5_1).f2), .int .i64 ((rd_T26 l1 x5_1).f3), .bool ((rd_T26 l1 x5_1).f4), .bool ((rd_T26 l1 x5_1).f5)]] (by rfl) rfl rfl zjnmae ?_
     with_reducible refine (laws_eqOp.calls ((rd_T26 l0 x5_1).f0) ((rd_T26 l0 x5_1).f1) ((rd_T26 l0 x5_1).f2) ((rd_T26 l0 x5_1).f3) ((rd_T26 l0 x5_1).f4) ((rd_T26 l0 x5_1).f5) ((rd_T26 l1 x5_1).f0) ((rd_T26 l1 x5_1).f1) ((rd_T26 l1 x5_1).f2) ((rd_T26 l1 x5_1).f3) ((rd_T26 l1 x5_1).f4) ((rd_T26 l1 x5_1).f5) false _ A7.out).mono ?_
     rintro e w12 ⟨rfl, hb⟩
     refine ⟨_, rfl, ?_⟩
     replace HB := aa (below_step zjjbob hb)
     (try clear hb)
     (try clear hb2)
     (try clear hk)
     (try clear hi)
     refine hK.out _ _ ⟨((HB.out.cell (World.block_lt_of_cell? w _ hw101_0)).trans hw101_0), ((HB.out.cell (World.block_lt_of_cell? w _ hw101_1)).trans hw101_1), ((HB.out.cell (World.block_lt_of_cell? w _ hw101_2)).trans hw101_2), ((HB.out.cell (World.block_lt_of_cell? w _ hw101_3)).trans hw101_3), ((HB.out.cell (World.block_lt_of_cell? w _ hw101_4)).trans hw101_4), ((HB.out.cell (World.block_lt_of_cell? w _ hw101_5)).trans hw101_5), ((HB.out.cell (World.block_lt_of_cell? w _ hw102_0)).trans hw102_0), ((HB.out.cell (World.block_lt_of_cell? w _ hw102_1)).trans hw102_1), ((HB.out.cell (World.block_lt_of_cell? w _ hw102_2)).trans hw102_2), ((HB.out.cell (World.block_lt_of_cell? w _ hw102_3)).trans hw102_3), ((HB.out.cell (World.block_lt_of_cell? w _ hw102_4)).trans hw102_4), ((HB.out.cell (World.block_lt_of_cell? w _ hw102_5)).trans hw102_5)⟩ (fun hHeld => ?_)
     clear hK K
     refine norm_ (a' := ?_) ?_ ?_
     rotate_left
     ·
      show Act.put _ (some 25) _ = _
      simp only [Act.put, List.setIfInBounds_toArray, List.set_cons_zero, List.set_cons_succ, i64_w, i32_w]
      rfl
     refine pu0 9 26 ?_
     refine done_ (done_of HT_.out (by kernel_rfl)) ?_
     try go_wp2
     go_ret
     exact ⟨zlhpib, zjjbob⟩
    ·
     obtain rfl := Option.some.inj H
     go_wp2
     go_ret
     exact ⟨zlhpib, zjjbob⟩
 have c3b0 := beq_eq_false_iff_ne.mpr c3
 have c3b1 := bne_iff_ne.mpr c3
 have c3b2 : (l0.length == l1.length) = false := by first | simpa using c3 | (simp at c3 ⊢; omega)
 obtain rfl := Option.some.inj H
 go_enter Tryd.func28, Tryd.ntmps28
 go_wp2
 go_ret
 exact ⟨zlhpib, zjjbob⟩
def laws_eqRequest.f (k : Nat) (a0_0 : Int) (a0_1 : Int) (a0_2 : Int) (l0_3 : List (S26)) (a1_0 : Int) (a1_1 : Int) (a1_2 : Int) (l1_3 : List (S26)) : Option (Bool) := if a0_0 = a1_0 then (if a0_1 = a1_1 then (if a0_2 = a1_2 then ((laws_eqOpS.f k l0_3 l1_3).bind fun t103 => (if t103 = true then (some true) else (some false))) else (some false)) else (some false)) else (some false)
theorem laws_eqRequest.mono : ∀ a0 a1 a2 a3 a4 a5 a6 a7 k, LeO (laws_eqRequest.f k a0 a1 a2 a3 a4 a5 a6 a7) (laws_eqRequest.f (k + 1) a0 a1 a2 a3 a4 a5 a6 a7) := by
 intro a0 a1 a2 a3 a4 a5 a6 a7 k
 unfold laws_eqRequest.f
 with_reducible repeat' first | exact laws_eqOpS.mono _ _ _ | exact LeO.refl _ | exact LeO.none _ | refine LeO.ite ?_ ?_ | refine LeO.bind ?_ (fun _ => ?_)
theorem laws_eqRequest.calls (k : Nat) (a0_0 : Int) (a0_1 : Int) (a0_2 : Int) (A0_3 : Option Addr) (c0_3 : Nat) (l0_3 : List (S26)) (a1_0 : Int) (a1_1 : Int) (a1_2 : Int) (A1_3 : Option Addr) (c1_3 : Nat) (l1_3 : List (S26)) (r : Bool) (w : World) (hr0_3 : Kd.C k26 w A0_3 l0_3.length l0_3) (hc0_3 : l0_3.length ≤ c0_3) (hr1_3 : Kd.C k26 w A1_3 l1_3.length l1_3) (hc1_3 : l1_3.length ≤ c1_3) (h : laws_eqRequest.f k a0_0 a0_1 a0_2 l0_3 a1_0 a1_1 a1_2 l1_3 = some r) :
  Calls Tryd.prog 13 #[.agg #[.int .i64 a0_0, .int .i64 a0_1, .int .i64 a0_2, .slice A0_3 l0_3.length c0_3], .agg #[.int .i64 a1_0, .int .i64 a1_1, .int .i64 a1_2, .slice A1_3 l1_3.length c1_3]] w fun e w' => e = .returned (.bool r) ∧ Below w.heap.size w w' := by
 have hu36 := Tryd.underlying36
 have HR0_3 := aa hr0_3
 have HC0_3 := aa hc0_3
 clear hr0_3 hc0_3
 have HR1_3 := aa hr1_3
 have HC1_3 := aa hc1_3
 clear hr1_3 hc1_3
 have HB := aa (Below.refl w.heap.size w)
 have H : (if a0_0 = a1_0 then (if a0_1 = a1_1 then (if a0_2 = a1_2 then ((laws_eqOpS.f k l0_3 l1_3).bind fun t103 => (if t103 = true then (some true) else (some false))) else (some false)) else (some false)) else (some false)) = some r := h
 clear h
 revert H
 refine itE_ (fun c3b0 c3b1 H => ?_) fun c3b0 c3b1 H => ?_
 ·
  revert H
  refine itE_ (fun c4b0 c4b1 H => ?_) fun c4b0 c4b1 H => ?_
  ·
   revert H
   refine itE_ (fun c5b0 c5b1 H => ?_) fun c5b0 c5b1 H => ?_
   ·
    revert H
    refine obs_ fun t103 A6 H => ?_
    by_cases c7 : t103 = true
    ·
     subst c7
     rw [if_pos rfl] at H
     obtain rfl := Option.some.inj H
     go_enter Tryd.func13, Tryd.ntmps13
     go_wp2_with (first | (refine be_ 2 #[.int .i64 a0_0, .int .i64 a0_1, .int .i64 a0_2, .slice A0_3 l0_3.length c0_3] 36 ?_; intro gb101 hg w8 hbox hb; have n0_ := aa (below_step zjjbob hb); have n1_ := aa (hbox); have n2_ := aa ((zkpfjp : w.heap.size ≤ gb101)); have n3_ := aa ((zkpfjp : w.heap.size ≤ gb101)); clear HB; have HB := n0_; have BK101 := n1_; have GW101 := n2_; have GE101 := n3_; clear n0_ n1_ n2_ n3_; clear hb hbox hg) | (refine be_ 3 #[.int .i64 a1_0, .int .i64 a1_1, .int .i64 a1_2, .slice A1_3 l1_3.length c1_3] 36 ?_; intro gb102 hg w9 hbox hb; have n0_ := aa (bb_ BK101.out hb); have n1_ := aa (below_step zkmbdh hb); have n2_ := aa (hbox); have n3_ := aa ((zmjkhl : w.heap.size ≤ gb102)); have n4_ := aa ((zmjkhl : w.heap.size ≤ gb102)); have n5_ := aa ((zapjan : gb101 ≠ gb102)); have n6_ := aa ((zlfoln : gb102 ≠ gb101)); clear BK101; clear HB; have BK101 := n0_; have HB := n1_; have BK102 := n2_; have GW102 := n3_; have GE102 := n4_; have NB101_102 := n5_; have NB102_101 := n6_; clear n0_ n1_ n2_ n3_ n4_ n5_ n6_; clear hb hbox hg; have hnb10 := NB101_102.out; have hnc10 := NB102_101.out; obtain ⟨hcz11_0, hcz11_1, hcz11_2, hcz11_3, hfz11_0, hfz11_1, hfz11_2, hfz11_3⟩ := blk4_ BK101.out; obtain ⟨hcz12_0, hcz12_1, hcz12_2, hcz12_3, hfz12_0, hfz12_1, hfz12_2, hfz12_3⟩ := blk4_ BK102.out) | (refine gc_ Tryd.func28 (some 24) #[.slice A0_3 l0_3.length c0_3, .slice A1_3 l1_3.length c1_3] ?_; (with_reducible refine (laws_eqOpS.calls k _ _ l0_3 _ _ l1_3 true _ zohcab HC0_3.out zdnlgh HC1_3.out A6.out).mono ?_); rintro e w13 ⟨rfl, hb⟩; refine ⟨_, rfl, ?_⟩; replace BK101 := aa (bb_ BK101.out hb); replace BK102 := aa (bb_ BK102.out hb); replace HB := aa (below_step zgkbbl hb); (try clear hb hk hi)))
     go_ret
     exact ⟨zlhpib, zgkbbl⟩
    replace c7 := Bool.eq_false_iff.mpr c7
    subst c7
    rw [if_neg fT_] at H
    obtain rfl := Option.some.inj H
    go_enter Tryd.func13, Tryd.ntmps13
    go_wp2_with (first | (refine be_ 2 #[.int .i64 a0_0, .int .i64 a0_1, .int .i64 a0_2, .slice A0_3 l0_3.length c0_3] 36 ?_; intro gb101 hg w14 hbox hb; have n0_ := aa (below_step zjjbob hb); have n1_ := aa (hbox); have n2_ := aa ((zkpfjp : w.heap.size ≤ gb101)); have n3_ := aa ((zkpfjp : w.heap.size ≤ gb101)); clear HB; have HB := n0_; have BK101 := n1_; have GW101 := n2_; have GE101 := n3_; clear n0_ n1_ n2_ n3_; clear hb hbox hg) | (refine be_ 3 #[.int .i64 a1_0, .int .i64 a1_1, .int .i64 a1_2, .slice A1_3 l1_3.length c1_3] 36 ?_; intro gb102 hg w15 hbox hb; have n0_ := aa (bb_ BK101.out hb); have n1_ := aa (below_step zkmbdh hb); have n2_ := aa (hbox); have n3_ := aa ((zmjkhl : w.heap.size ≤ gb102)); have n4_ := aa ((zmjkhl : w.heap.size ≤ gb102)); have n5_ := aa ((zapjan : gb101 ≠ gb102)); have n6_ := aa ((zlfoln : gb102 ≠ gb101)); clear BK101; clear HB; have BK101 := n0_; have HB := n1_; have BK102 := n2_; have GW102 := n3_; have GE102 := n4_; have NB101_102 := n5_; have NB102_101 := n6_; clear n0_ n1_ n2_ n3_ n4_ n5_ n6_; clear hb hbox hg; have hnb16 := NB101_102.out; have hnc16 := NB102_101.out; obtain ⟨hcz17_0, hcz17_1, hcz17_2, hcz17_3, hfz17_0, hfz17_1, hfz17_2, hfz17_3⟩ := blk4_ BK101.out; obtain ⟨hcz18_0, hcz18_1, hcz18_2, hcz18_3, hfz18_0, hfz18_1, hfz18_2, hfz18_3⟩ := blk4_ BK102.out) | (refine gc_ Tryd.func28 (some 24) #[.slice A0_3 l0_3.length c0_3, .slice A1_3 l1_3.length c1_3] ?_; (with_reducible refine (laws_eqOpS.calls k _ _ l0_3 _ _ l1_3 false _ zohcab HC0_3.out zdnlgh HC1_3.out A6.out).mono ?_); rintro e w19 ⟨rfl, hb⟩; refine ⟨_, rfl, ?_⟩; replace BK101 := aa (bb_ BK101.out hb); replace BK102 := aa (bb_ BK102.out hb); replace HB := aa (below_step zgkbbl hb); (try clear hb hk hi)))
    go_ret
    exact ⟨zlhpib, zgkbbl⟩
   obtain rfl := Option.some.inj H
   go_enter Tryd.func13, Tryd.ntmps13
   go_wp2_with (first | (refine be_ 2 #[.int .i64 a0_0, .int .i64 a0_1, .int .i64 a0_2, .slice A0_3 l0_3.length c0_3] 36 ?_; intro gb101 hg w20 hbox hb; have n0_ := aa (below_step zjjbob hb); have n1_ := aa (hbox); have n2_ := aa ((zkpfjp : w.heap.size ≤ gb101)); have n3_ := aa ((zkpfjp : w.heap.size ≤ gb101)); clear HB; have HB := n0_; have BK101 := n1_; have GW101 := n2_; have GE101 := n3_; clear n0_ n1_ n2_ n3_; clear hb hbox hg) | (refine be_ 3 #[.int .i64 a1_0, .int .i64 a1_1, .int .i64 a1_2, .slice A1_3 l1_3.length c1_3] 36 ?_; intro gb102 hg w21 hbox hb; have n0_ := aa (bb_ BK101.out hb); have n1_ := aa (below_step zkmbdh hb); have n2_ := aa (hbox); have n3_ := aa ((zmjkhl : w.heap.size ≤ gb102)); have n4_ := aa ((zmjkhl : w.heap.size ≤ gb102)); have n5_ := aa ((zapjan : gb101 ≠ gb102)); have n6_ := aa ((zlfoln : gb102 ≠ gb101)); clear BK101; clear HB; have BK101 := n0_; have HB := n1_; have BK102 := n2_; have GW102 := n3_; have GE102 := n4_; have NB101_102 := n5_; have NB102_101 := n6_; clear n0_ n1_ n2_ n3_ n4_ n5_ n6_; clear hb hbox hg; have hnb22 := NB101_102.out; have hnc22 := NB102_101.out; obtain ⟨hcz23_0, hcz23_1, hcz23_2, hcz23_3, hfz23_0, hfz23_1, hfz23_2, hfz23_3⟩ := blk4_ BK101.out; obtain ⟨hcz24_0, hcz24_1, hcz24_2, hcz24_3, hfz24_0, hfz24_1, hfz24_2, hfz24_3⟩ := blk4_ BK102.out))
   go_ret
   exact ⟨zlhpib, zgkbbl⟩
  obtain rfl := Option.some.inj H
  go_enter Tryd.func13, Tryd.ntmps13
  go_wp2_with (first | (refine be_ 2 #[.int .i64 a0_0, .int .i64 a0_1, .int .i64 a0_2, .slice A0_3 l0_3.length c0_3] 36 ?_; intro gb101 hg w25 hbox hb; have n0_ := aa (below_step zjjbob hb); have n1_ := aa (hbox); have n2_ := aa ((zkpfjp : w.heap.size ≤ gb101)); have n3_ := aa ((zkpfjp : w.heap.size ≤ gb101)); clear HB; have HB := n0_; have BK101 := n1_; have GW101 := n2_; have GE101 := n3_; clear n0_ n1_ n2_ n3_; clear hb hbox hg) | (refine be_ 3 #[.int .i64 a1_0, .int .i64 a1_1, .int .i64 a1_2, .slice A1_3 l1_3.length c1_3] 36 ?_; intro gb102 hg w26 hbox hb; have n0_ := aa (bb_ BK101.out hb); have n1_ := aa (below_step zkmbdh hb); have n2_ := aa (hbox); have n3_ := aa ((zmjkhl : w.heap.size ≤ gb102)); have n4_ := aa ((zmjkhl : w.heap.size ≤ gb102)); have n5_ := aa ((zapjan : gb101 ≠ gb102)); have n6_ := aa ((zlfoln : gb102 ≠ gb101)); clear BK101; clear HB; have BK101 := n0_; have HB := n1_; have BK102 := n2_; have GW102 := n3_; have GE102 := n4_; have NB101_102 := n5_; have NB102_101 := n6_; clear n0_ n1_ n2_ n3_ n4_ n5_ n6_; clear hb hbox hg; have hnb27 := NB101_102.out; have hnc27 := NB102_101.out; obtain ⟨hcz28_0, hcz28_1, hcz28_2, hcz28_3, hfz28_0, hfz28_1, hfz28_2, hfz28_3⟩ := blk4_ BK101.out; obtain ⟨hcz29_0, hcz29_1, hcz29_2, hcz29_3, hfz29_0, hfz29_1, hfz29_2, hfz29_3⟩ := blk4_ BK102.out))
  go_ret
  exact ⟨zlhpib, zgkbbl⟩
 obtain rfl := Option.some.inj H
 go_enter Tryd.func13, Tryd.ntmps13
 go_wp2_with (first | (refine be_ 2 #[.int .i64 a0_0, .int .i64 a0_1, .int .i64 a0_2, .slice A0_3 l0_3.length c0_3] 36 ?_; intro gb101 hg w30 hbox hb; have n0_ := aa (below_step zjjbob hb); have n1_ := aa (hbox); have n2_ := aa ((zkpfjp : w.heap.size ≤ gb101)); have n3_ := aa ((zkpfjp : w.heap.size ≤ gb101)); clear HB; have HB := n0_; have BK101 := n1_; have GW101 := n2_; have GE101 := n3_; clear n0_ n1_ n2_ n3_; clear hb hbox hg) | (refine be_ 3 #[.int .i64 a1_0, .int .i64 a1_1, .int .i64 a1_2, .slice A1_3 l1_3.length c1_3] 36 ?_; intro gb102 hg w31 hbox hb; have n0_ := aa (bb_ BK101.out hb); have n1_ := aa (below_step zkmbdh hb); have n2_ := aa (hbox); have n3_ := aa ((zmjkhl : w.heap.size ≤ gb102)); have n4_ := aa ((zmjkhl : w.heap.size ≤ gb102)); have n5_ := aa ((zapjan : gb101 ≠ gb102)); have n6_ := aa ((zlfoln : gb102 ≠ gb101)); clear BK101; clear HB; have BK101 := n0_; have HB := n1_; have BK102 := n2_; have GW102 := n3_; have GE102 := n4_; have NB101_102 := n5_; have NB102_101 := n6_; clear n0_ n1_ n2_ n3_ n4_ n5_ n6_; clear hb hbox hg; have hnb32 := NB101_102.out; have hnc32 := NB102_101.out; obtain ⟨hcz33_0, hcz33_1, hcz33_2, hcz33_3, hfz33_0, hfz33_1, hfz33_2, hfz33_3⟩ := blk4_ BK101.out; obtain ⟨hcz34_0, hcz34_1, hcz34_2, hcz34_3, hfz34_0, hfz34_1, hfz34_2, hfz34_3⟩ := blk4_ BK102.out))
 go_ret
 exact ⟨zlhpib, zgkbbl⟩
end Go.Proofs.YtbeghfdlbokhkaaDoor.Qc