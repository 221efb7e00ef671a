import Derived.Test.YtajlnffefoeppaaDoorQax0
import Derived.Test.YtajlnffefoeppaaDoorQax2
import Derived.Test.YtajlnffefoeppaaDoorQax5
import Derived.Test.YtajlnffefoeppaaDoorQax6
import Derived.Test.YtajlnffefoeppaaDoorQax7
import Derived.Test.YtajlnffefoeppaaDoorQax8
import Derived.Test.YtajlnffefoeppaaDoorQax10
namespace Go.Proofs.YtajlnffefoeppaaDoor.Qa
open Go.RowKit Go.Proofs.YtajlnffefoeppaaDoorW.PrintWords Go.Proofs.YtajlnffefoeppaaDoorW.PrintLast Go.Proofs.YtajlnffefoeppaaDoorW.PrintMore
attribute [local go_sem] max2_int min2_int max_two min_two max_three min_three max_four min_four
set_option linter.unusedVariables false
set_option linter.unusedSimpArgs false
set_option maxHeartbeats 8000000
set_option maxRecDepth 100000

/-! ### spec_l2Fault: function 23 -/
mutual
def spec_l2Fault.l0 : Nat → List (S44) → Int → Option (Int)
 | 0, _, _ => none
 | k + 1, x0, x3 => if x3 < (x0.length : Int) then (if 0 ≤ x3 then ((spec_l1Fault.f k ((rd_T44 x0 x3).f0)).bind fun t103 => (if t103 = 0 then ((spec_l2Data.f ((rd_T44 x0 x3).f1)).bind fun t105 => (if t105 = true then ((spec_l1In.f ((rd_T44 x0 x3).f2) 0 999).bind fun t107 => (if t107 = true then ((spec_l2Owner.f ((rd_T44 x0 x3).f3)).bind fun t109 => (if t109 = true then ((spec_l1In.f ((rd_T44 x0 x3).f4) 0 100).bind fun t111 => (spec_l2Fault.j1 k x0 x3 (!t111))) else (spec_l2Fault.j1 k x0 x3 true))) else (spec_l2Fault.j1 k x0 x3 true))) else (spec_l2Fault.j1 k x0 x3 true))) else (some t103))) else (none)) else ((spec_l2At.f k x0 (⟨#[47]⟩ : ByteArray)).bind fun t114 => (if t114 < 0 then (some 4) else (spec_l2Fault.l1 k x0 0)))
def spec_l2Fault.j1 : Nat → List (S44) → Int → Bool → Option (Int)
 | 0, _, _, _ => none
 | k + 1, x0, x3, x57 => if x57 = true then (some 3) else (if x3 > 0 then (if 0 ≤ x3 then (if x3 < (x0.length : Int) then (if 0 ≤ (wrap64 (x3 - 1)) then (if (wrap64 (x3 - 1)) < (x0.length : Int) then (if ((Op.bytesLess (((rd_T44 x0 (wrap64 (x3 - 1))).f0).toList) (((rd_T44 x0 x3).f0).toList)) = true) then (spec_l2Fault.l0 k x0 (wrap64 (x3 + 1))) else (some 1)) else (none)) else (none)) else (none)) else (none)) else (spec_l2Fault.l0 k x0 (wrap64 (x3 + 1))))
def spec_l2Fault.l1 : Nat → List (S44) → Int → Option (Int)
 | 0, _, _ => none
 | k + 1, x0, x6 => if x6 < (x0.length : Int) then (if 0 ≤ x6 then ((spec_l1Parent.f k ((rd_T44 x0 x6).f0)).bind fun t116 => ((spec_l2At.f k x0 t116).bind fun t117 => (if t117 < 0 then (some 4) else (spec_l2Fault.l1 k x0 (wrap64 (x6 + 1)))))) else (none)) else (spec_l2Fault.l2 k x0 0)
def spec_l2Fault.l2 : Nat → List (S44) → Int → Option (Int)
 | 0, _, _ => none
 | k + 1, x0, x7 => if x7 < (x0.length : Int) then (if 0 ≤ x7 then ((spec_l1Parent.f k ((rd_T44 x0 x7).f0)).bind fun t119 => ((spec_l2At.f k x0 t119).bind fun t120 => (if 0 ≤ t120 then (if t120 < (x0.length : Int) then (if ((rd_T44 x0 t120).f3) = 0 then (spec_l2Fault.l2 k x0 (wrap64 (x7 + 1))) else (some 1)) else (none)) else (none)))) else (none)) else (some 0)
end
def spec_l2Fault.f (k : Nat) (l0 : List (S44)) : Option (Int) := if (l0.length : Int) > 20 then (some 2) else (spec_l2Fault.l0 k l0 0)
theorem spec_l2Fault.mono_l : ∀ k, (∀ y0 y1, LeO (spec_l2Fault.l0 k y0 y1) (spec_l2Fault.l0 (k + 1) y0 y1)) ∧ (∀ y0 y1 y2, LeO (spec_l2Fault.j1 k y0 y1 y2) (spec_l2Fault.j1 (k + 1) y0 y1 y2)) ∧ (∀ y0 y1, LeO (spec_l2Fault.l1 k y0 y1) (spec_l2Fault.l1 (k + 1) y0 y1)) ∧ (∀ y0 y1, LeO (spec_l2Fault.l2 k y0 y1) (spec_l2Fault.l2 (k + 1) y0 y1))
 | 0 => ⟨fun _ _ r h => by simp [spec_l2Fault.l0] at h, fun _ _ _ r h => by simp [spec_l2Fault.j1] at h, fun _ _ r h => by simp [spec_l2Fault.l1] at h, fun _ _ r h => by simp [spec_l2Fault.l2] at h⟩
 | k + 1 => by
  obtain ⟨ih0, ih1, ih2, ih3⟩ := spec_l2Fault.mono_l k
  refine ⟨?_, ?_, ?_, ?_⟩
  ·
   intro y0 y1
   unfold spec_l2Fault.l0
   repeat' first
   | (with_reducible exact ih0 _ _)
   | (with_reducible exact ih1 _ _ _)
   | (with_reducible exact ih2 _ _)
   | (with_reducible exact ih3 _ _)
   | (with_reducible exact spec_l1Fault.mono _ _)
   | (with_reducible exact spec_l1Parent.mono _ _)
   | (with_reducible exact spec_l2At.mono _ _ _)
   | (with_reducible exact LeO.refl _)
   | (with_reducible exact LeO.none _)
   | (with_reducible refine LeO.ite ?_ ?_)
   | (with_reducible refine LeO.bind ?_ (fun _ => ?_))
  ·
   intro y0 y1 y2
   unfold spec_l2Fault.j1
   repeat' first
   | (with_reducible exact ih0 _ _)
   | (with_reducible exact ih1 _ _ _)
   | (with_reducible exact ih2 _ _)
   | (with_reducible exact ih3 _ _)
   | (with_reducible exact spec_l1Fault.mono _ _)
   | (with_reducible exact spec_l1Parent.mono _ _)
   | (with_reducible exact spec_l2At.mono _ _ _)
   | (with_reducible exact LeO.refl _)
   | (with_reducible exact LeO.none _)
   | (with_reducible refine LeO.ite ?_ ?_)
   | (with_reducible refine LeO.bind ?_ (fun _ => ?_))
  ·
   intro y0 y1
   unfold spec_l2Fault.l1
   repeat' first
   | (with_reducible exact ih0 _ _)
   | (with_reducible exact ih1 _ _ _)
   | (with_reducible exact ih2 _ _)
   | (with_reducible exact ih3 _ _)
   | (with_reducible exact spec_l1Fault.mono _ _)
   | (with_reducible exact spec_l1Parent.mono _ _)
   | (with_reducible exact spec_l2At.mono _ _ _)
   | (with_reducible exact LeO.refl _)
   | (with_reducible exact LeO.none _)
   | (with_reducible refine LeO.ite ?_ ?_)
   | (with_reducible refine LeO.bind ?_ (fun _ => ?_))
  ·
   intro y0 y1
   unfold spec_l2Fault.l2
   repeat' first
   | (with_reducible exact ih0 _ _)
   | (with_reducible exact ih1 _ _ _)
   | (with_reducible exact ih2 _ _)
   | (with_reducible exact ih3 _ _)
   | (with_reducible exact spec_l1Fault.mono _ _)
   | (with_reducible exact spec_l1Parent.mono _ _)
   | (with_reducible exact spec_l2At.mono _ _ _)
   | (with_reducible exact LeO.refl _)
   | (with_reducible exact LeO.none _)
   | (with_reducible refine LeO.ite ?_ ?_)
   | (with_reducible refine LeO.bind ?_ (fun _ => ?_))
theorem spec_l2Fault.mono : ∀ a0 k, LeO (spec_l2Fault.f k a0) (spec_l2Fault.f (k + 1) a0) := by
 intro a0 k
 obtain ⟨ih0, ih1, ih2, ih3⟩ := spec_l2Fault.mono_l k
 unfold spec_l2Fault.f
 repeat' first
   | (with_reducible exact ih0 _ _)
   | (with_reducible exact ih1 _ _ _)
   | (with_reducible exact ih2 _ _)
   | (with_reducible exact ih3 _ _)
   | (with_reducible exact spec_l1Fault.mono _ _)
   | (with_reducible exact spec_l1Parent.mono _ _)
   | (with_reducible exact spec_l2At.mono _ _ _)
   | (with_reducible exact LeO.refl _)
   | (with_reducible exact LeO.none _)
   | (with_reducible refine LeO.ite ?_ ?_)
   | (with_reducible refine LeO.bind ?_ (fun _ => ?_))
theorem spec_l2Fault.calls (k : Nat) (A0 : Option Addr) (c0 : Nat) (l0 : List (S44)) (r : Int) (w : World) (hr0 : Kd.C k44 w A0 l0.length l0) (hc0 : l0.length ≤ c0) (h : spec_l2Fault.f k l0 = some r) :
  Calls Tryd.prog 23 #[.slice A0 l0.length c0] w fun e w' => e = .returned (.int .i64 r) ∧ Below w.heap.size w w' := by
 have HR0 := aa hr0
 have HC0 := aa hc0
 clear hr0 hc0
 have HB := aa (Below.refl w.heap.size w)
 have H : (if (l0.length : Int) > 20 then (some 2) else (spec_l2Fault.l0 k l0 0)) = some r := h
 clear h
 by_cases c2 : (l0.length : Int) > 20
 ·
  rw [if_pos c2] at H
  have c2b0 : decide (20 < (l0.length : Int)) = true := decide_eq_true c2
  have c2b1 : decide (20 < l0.length) = true := decide_eq_true (by omega)
  clear c2
  obtain rfl := Option.some.inj H
  go_enter Tryd.func23, Tryd.ntmps23
  go_wp2
  repeat (go_quiet (fail); try go_wp2)
  go_ret
  exact ⟨by first | rfl | (simp [errW_none, errW_some] <;> rfl) | (simp [*, errW_none, errW_some] <;> rfl), by repeat (first | (with_reducible first | exact HB.out | apply below_alloc | apply pw_below_drewN | apply below_drew1) | exact HB.out)⟩
 rw [if_neg c2] at H
 have c2b0 : decide (20 < (l0.length : Int)) = false := decide_eq_false c2
 have c2b1 : decide (20 < l0.length) = false := decide_eq_false (by omega)
 clear c2
 have H' := aa H
 clear H
 go_enter Tryd.func23, Tryd.ntmps23
 go_wp2
 repeat (go_quiet (fail); try go_wp2)
 go_loopg [3] k (fun kq v3 w' => ∃ (x3_1 : Int), v3 = .int .i64 x3_1 ∧ Aside0 (spec_l2Fault.l0 kq l0 x3_1 = some r) ∧ Aside0 (kq ≤ k) ∧ Aside0 (Below w.heap.size w w'))
 case atStart => exact ⟨(0), zagbkp, H', ⟨Nat.le_refl _⟩, ⟨by repeat (first | (with_reducible first | exact HB.out | apply below_alloc | apply pw_below_drewN | apply below_drew1) | exact HB.out)⟩⟩
 case round =>
  clear H'
  try clear c2
  try clear c2b0
  try clear c2b1
  try clear p2
  obtain ⟨x3_1, rfl, HA, HK1, HB⟩ := hrel
  cases gk with
  | zero => exact absurd HA.out (by simp [spec_l2Fault.l0])
  | succ k1 =>
   have H := HA.out
   clear HA
   simp only [spec_l2Fault.l0] at H
   by_cases c3 : x3_1 < (l0.length : Int)
   ·
    rw [if_pos c3] at H
    have c3b0 : decide (x3_1 < (l0.length : Int)) = true := decide_eq_true c3
    clear c3
    by_cases c4 : 0 ≤ x3_1
    ·
     rw [if_pos c4] at H
     have c4b0 : decide (0 ≤ x3_1) = true := decide_eq_true c4
     clear c4
     revert H
     refine obs_ fun t103 A5 H => ?_
     by_cases c6 : t103 = 0
     ·
      rw [if_pos c6] at H
      have c6b0 : (t103 == 0) = true := beq_iff_eq.mpr c6
      have c6b1 : (t103 != 0) = false := bne_eq_false_iff_eq.mpr c6
      clear c6
      have HC7 := aa H
      clear H
      have p101 : 0 ≤ (x3_1 : Int) := of_decide_eq_true zgglam
      have q101 : x3_1 < (l0.length : Int) := of_decide_eq_true zgglam
      obtain ⟨ad101, e101, hx101_0, hx101_1, hx101_2, hx101_3, hx101_4⟩ := at_T44 HR0.out x3_1 p101 q101
      cases e101
      replace hx101_0 := pb HB.out hx101_0
      replace hx101_1 := pb HB.out hx101_1
      replace hx101_2 := pb HB.out hx101_2
      replace hx101_3 := pb HB.out hx101_3
      replace hx101_4 := pb HB.out hx101_4
      replace p101 := eq_true p101
      replace q101 := eq_true q101
      have p102 : 0 ≤ (x3_1 : Int) := of_decide_eq_true zgglam
      have q102 : x3_1 < (l0.length : Int) := of_decide_eq_true zgglam
      obtain ⟨ad102, e102, hx102_0, hx102_1, hx102_2, hx102_3, hx102_4⟩ := at_T44 HR0.out x3_1 p102 q102
      obtain rfl : ad101 = ad102 := (by injection e102)
      replace hx102_0 := pb HB.out hx102_0
      replace hx102_1 := pb HB.out hx102_1
      replace hx102_2 := pb HB.out hx102_2
      replace hx102_3 := pb HB.out hx102_3
      replace hx102_4 := pb HB.out hx102_4
      replace p102 := eq_true p102
      replace q102 := eq_true q102
      go_upto_region 10 with (first | (go_at_call 39; (with_reducible refine (spec_l1Fault.calls k1 ((rd_T44 l0 x3_1).f0) t103 _ A5.out).mono ?_); rintro e w8 ⟨rfl, hb⟩; replace HB := aa (below_step zjjbob hb); (try clear hb); (try clear hk); (try clear hi)))
      repeat (go_quiet (fail); try go_wp2)
      (try simp only [Act.put, List.setIfInBounds_toArray, List.set_cons_zero, List.set_cons_succ])
      go_cut [57] (fun v57 wc => ∃ (kq : Nat) (x57_6 : Bool), v57 = .bool x57_6 ∧ Aside0 (spec_l2Fault.j1 kq l0 x3_1 x57_6 = some r) ∧ Aside0 (kq ≤ k1) ∧ Aside0 (Below w.heap.size w wc))
      case first =>
       have H := HC7.out
       clear HC7
       revert H
       refine obs_ fun t105 A9 H => ?_
       by_cases c10 : t105 = true
       ·
        subst c10
        replace H : ((spec_l1In.f ((rd_T44 l0 x3_1).f2) 0 999).bind fun t107 => (if t107 = true then ((spec_l2Owner.f ((rd_T44 l0 x3_1).f3)).bind fun t109 => (if t109 = true then ((spec_l1In.f ((rd_T44 l0 x3_1).f4) 0 100).bind fun t111 => (spec_l2Fault.j1 k1 l0 x3_1 (!t111))) else (spec_l2Fault.j1 k1 l0 x3_1 true))) else (spec_l2Fault.j1 k1 l0 x3_1 true))) = some r := by rw [if_pos rfl] at H; exact H
        revert H
        refine obs_ fun t107 A11 H => ?_
        by_cases c12 : t107 = true
        ·
         subst c12
         replace H : ((spec_l2Owner.f ((rd_T44 l0 x3_1).f3)).bind fun t109 => (if t109 = true then ((spec_l1In.f ((rd_T44 l0 x3_1).f4) 0 100).bind fun t111 => (spec_l2Fault.j1 k1 l0 x3_1 (!t111))) else (spec_l2Fault.j1 k1 l0 x3_1 true))) = some r := by rw [if_pos rfl] at H; exact H
         revert H
         refine obs_ fun t109 A13 H => ?_
         by_cases c14 : t109 = true
         ·
          subst c14
          replace H : ((spec_l1In.f ((rd_T44 l0 x3_1).f4) 0 100).bind fun t111 => (spec_l2Fault.j1 k1 l0 x3_1 (!t111))) = some r := by rw [if_pos rfl] at H; exact H
          revert H
          refine obs_ fun t111 A15 H => ?_
          have H' := aa H
          clear H
          have p104 : 0 ≤ (x3_1 : Int) := of_decide_eq_true zgglam
          have q104 : x3_1 < (l0.length : Int) := of_decide_eq_true zgglam
          obtain ⟨ad104, e104, hx104_0, hx104_1, hx104_2, hx104_3, hx104_4⟩ := at_T44 HR0.out x3_1 p104 q104
          obtain rfl : ad101 = ad104 := (by injection e104)
          replace hx104_0 := pb HB.out hx104_0
          replace hx104_1 := pb HB.out hx104_1
          replace hx104_2 := pb HB.out hx104_2
          replace hx104_3 := pb HB.out hx104_3
          replace hx104_4 := pb HB.out hx104_4
          replace p104 := eq_true p104
          replace q104 := eq_true q104
          go_wp2_with (first | (go_at_call 40; (with_reducible refine (spec_l2Data.calls ((rd_T44 l0 x3_1).f1) true _ A9.out).mono ?_); rintro e w' ⟨rfl, ⟨nd, rfl⟩⟩; (try exact zecaha); have p106 : 0 ≤ (x3_1 : Int) := of_decide_eq_true zgglam; have q106 : x3_1 < (l0.length : Int) := of_decide_eq_true zgglam; obtain ⟨ad106, e106, hx106_0, hx106_1, hx106_2, hx106_3, hx106_4⟩ := at_T44 HR0.out x3_1 p106 q106; obtain rfl : ad101 = ad106 := (by injection e106); replace hx106_0 := pb HB.out hx106_0; replace hx106_1 := pb HB.out hx106_1; replace hx106_2 := pb HB.out hx106_2; replace hx106_3 := pb HB.out hx106_3; replace hx106_4 := pb HB.out hx106_4; replace p106 := eq_true p106; replace q106 := eq_true q106) | (go_at_call 41; (with_reducible refine (spec_l1In.calls ((rd_T44 l0 x3_1).f2) 0 999 true _ A11.out).mono ?_); rintro e w' ⟨rfl, ⟨nd, rfl⟩⟩; (try exact zecaha); have p108 : 0 ≤ (x3_1 : Int) := of_decide_eq_true zgglam; have q108 : x3_1 < (l0.length : Int) := of_decide_eq_true zgglam; obtain ⟨ad108, e108, hx108_0, hx108_1, hx108_2, hx108_3, hx108_4⟩ := at_T44 HR0.out x3_1 p108 q108; obtain rfl : ad101 = ad108 := (by injection e108); replace hx108_0 := pb HB.out hx108_0; replace hx108_1 := pb HB.out hx108_1; replace hx108_2 := pb HB.out hx108_2; replace hx108_3 := pb HB.out hx108_3; replace hx108_4 := pb HB.out hx108_4; replace p108 := eq_true p108; replace q108 := eq_true q108) | (go_at_call 42; (with_reducible refine (spec_l2Owner.calls ((rd_T44 l0 x3_1).f3) true _ A13.out).mono ?_); rintro e w' ⟨rfl, ⟨nd, rfl⟩⟩; (try exact zecaha); have p110 : 0 ≤ (x3_1 : Int) := of_decide_eq_true zgglam; have q110 : x3_1 < (l0.length : Int) := of_decide_eq_true zgglam; obtain ⟨ad110, e110, hx110_0, hx110_1, hx110_2, hx110_3, hx110_4⟩ := at_T44 HR0.out x3_1 p110 q110; obtain rfl : ad101 = ad110 := (by injection e110); replace hx110_0 := pb HB.out hx110_0; replace hx110_1 := pb HB.out hx110_1; replace hx110_2 := pb HB.out hx110_2; replace hx110_3 := pb HB.out hx110_3; replace hx110_4 := pb HB.out hx110_4; replace p110 := eq_true p110; replace q110 := eq_true q110) | (go_at_call 41; (with_reducible refine (spec_l1In.calls ((rd_T44 l0 x3_1).f4) 0 100 t111 _ A15.out).mono ?_); rintro e w' ⟨rfl, ⟨nd, rfl⟩⟩; (try exact zecaha)))
          repeat (go_quiet (fail); try go_wp2)
          go_meet
          case rel => exact ⟨_, (!t111), zagbkp, H', ⟨by have := HK1.out; first | omega | exact Nat.le_refl _⟩, ⟨by repeat (first | (with_reducible first | exact HB.out | apply below_alloc | apply pw_below_drewN | apply below_drew1) | exact HB.out)⟩⟩
         replace c14 := Bool.eq_false_iff.mpr c14
         subst c14
         replace H : (spec_l2Fault.j1 k1 l0 x3_1 true) = some r := by rw [if_neg (show ¬ (false = true) by decide)] at H; exact H
         have H' := aa H
         clear H
         have p104 : 0 ≤ (x3_1 : Int) := of_decide_eq_true zgglam
         have q104 : x3_1 < (l0.length : Int) := of_decide_eq_true zgglam
         obtain ⟨ad104, e104, hx104_0, hx104_1, hx104_2, hx104_3, hx104_4⟩ := at_T44 HR0.out x3_1 p104 q104
         obtain rfl : ad101 = ad104 := (by injection e104)
         replace hx104_0 := pb HB.out hx104_0
         replace hx104_1 := pb HB.out hx104_1
         replace hx104_2 := pb HB.out hx104_2
         replace hx104_3 := pb HB.out hx104_3
         replace hx104_4 := pb HB.out hx104_4
         replace p104 := eq_true p104
         replace q104 := eq_true q104
         go_wp2_with (first | (go_at_call 40; (with_reducible refine (spec_l2Data.calls ((rd_T44 l0 x3_1).f1) true _ A9.out).mono ?_); rintro e w' ⟨rfl, ⟨nd, rfl⟩⟩; (try exact zecaha); have p106 : 0 ≤ (x3_1 : Int) := of_decide_eq_true zgglam; have q106 : x3_1 < (l0.length : Int) := of_decide_eq_true zgglam; obtain ⟨ad106, e106, hx106_0, hx106_1, hx106_2, hx106_3, hx106_4⟩ := at_T44 HR0.out x3_1 p106 q106; obtain rfl : ad101 = ad106 := (by injection e106); replace hx106_0 := pb HB.out hx106_0; replace hx106_1 := pb HB.out hx106_1; replace hx106_2 := pb HB.out hx106_2; replace hx106_3 := pb HB.out hx106_3; replace hx106_4 := pb HB.out hx106_4; replace p106 := eq_true p106; replace q106 := eq_true q106) | (go_at_call 41; (with_reducible refine (spec_l1In.calls ((rd_T44 l0 x3_1).f2) 0 999 true _ A11.out).mono ?_); rintro e w' ⟨rfl, ⟨nd, rfl⟩⟩; (try exact zecaha); have p108 : 0 ≤ (x3_1 : Int) := of_decide_eq_true zgglam; have q108 : x3_1 < (l0.length : Int) := of_decide_eq_true zgglam; obtain ⟨ad108, e108, hx108_0, hx108_1, hx108_2, hx108_3, hx108_4⟩ := at_T44 HR0.out x3_1 p108 q108; obtain rfl : ad101 = ad108 := (by injection e108); replace hx108_0 := pb HB.out hx108_0; replace hx108_1 := pb HB.out hx108_1; replace hx108_2 := pb HB.out hx108_2; replace hx108_3 := pb HB.out hx108_3; replace hx108_4 := pb HB.out hx108_4; replace p108 := eq_true p108; replace q108 := eq_true q108) | (go_at_call 42; (with_reducible refine (spec_l2Owner.calls ((rd_T44 l0 x3_1).f3) false _ A13.out).mono ?_); rintro e w' ⟨rfl, ⟨nd, rfl⟩⟩; (try exact zecaha)))
         repeat (go_quiet (fail); try go_wp2)
         go_meet
         case rel => exact ⟨_, (true), zagbkp, H', ⟨by have := HK1.out; first | omega | exact Nat.le_refl _⟩, ⟨by repeat (first | (with_reducible first | exact HB.out | apply below_alloc | apply pw_below_drewN | apply below_drew1) | exact HB.out)⟩⟩
        replace c12 := Bool.eq_false_iff.mpr c12
        subst c12
        replace H : (spec_l2Fault.j1 k1 l0 x3_1 true) = some r := by rw [if_neg (show ¬ (false = true) by decide)] at H; exact H
        have H' := aa H
        clear H
        have p104 : 0 ≤ (x3_1 : Int) := of_decide_eq_true zgglam
        have q104 : x3_1 < (l0.length : Int) := of_decide_eq_true zgglam
        obtain ⟨ad104, e104, hx104_0, hx104_1, hx104_2, hx104_3, hx104_4⟩ := at_T44 HR0.out x3_1 p104 q104
        obtain rfl : ad101 = ad104 := (by injection e104)
        replace hx104_0 := pb HB.out hx104_0
        replace hx104_1 := pb HB.out hx104_1
        replace hx104_2 := pb HB.out hx104_2
        replace hx104_3 := pb HB.out hx104_3
        replace hx104_4 := pb HB.out hx104_4
        replace p104 := eq_true p104
        replace q104 := eq_true q104
        go_wp2_with (first | (go_at_call 40; (with_reducible refine (spec_l2Data.calls ((rd_T44 l0 x3_1).f1) true _ A9.out).mono ?_); rintro e w' ⟨rfl, ⟨nd, rfl⟩⟩; (try exact zecaha); have p106 : 0 ≤ (x3_1 : Int) := of_decide_eq_true zgglam; have q106 : x3_1 < (l0.length : Int) := of_decide_eq_true zgglam; obtain ⟨ad106, e106, hx106_0, hx106_1, hx106_2, hx106_3, hx106_4⟩ := at_T44 HR0.out x3_1 p106 q106; obtain rfl : ad101 = ad106 := (by injection e106); replace hx106_0 := pb HB.out hx106_0; replace hx106_1 := pb HB.out hx106_1; replace hx106_2 := pb HB.out hx106_2; replace hx106_3 := pb HB.out hx106_3; replace hx106_4 := pb HB.out hx106_4; replace p106 := eq_true p106; replace q106 := eq_true q106) | (go_at_call 41; (with_reducible refine (spec_l1In.calls ((rd_T44 l0 x3_1).f2) 0 999 false _ A11.out).mono ?_); rintro e w' ⟨rfl, ⟨nd, rfl⟩⟩; (try exact zecaha)))
        repeat (go_quiet (fail); try go_wp2)
        go_meet
        case rel => exact ⟨_, (true), zagbkp, H', ⟨by have := HK1.out; first | omega | exact Nat.le_refl _⟩, ⟨by repeat (first | (with_reducible first | exact HB.out | apply below_alloc | apply pw_below_drewN | apply below_drew1) | exact HB.out)⟩⟩
       replace c10 := Bool.eq_false_iff.mpr c10
       subst c10
       replace H : (spec_l2Fault.j1 k1 l0 x3_1 true) = some r := by rw [if_neg (show ¬ (false = true) by decide)] at H; exact H
       have H' := aa H
       clear H
       have p104 : 0 ≤ (x3_1 : Int) := of_decide_eq_true zgglam
       have q104 : x3_1 < (l0.length : Int) := of_decide_eq_true zgglam
       obtain ⟨ad104, e104, hx104_0, hx104_1, hx104_2, hx104_3, hx104_4⟩ := at_T44 HR0.out x3_1 p104 q104
       obtain rfl : ad101 = ad104 := (by injection e104)
       replace hx104_0 := pb HB.out hx104_0
       replace hx104_1 := pb HB.out hx104_1
       replace hx104_2 := pb HB.out hx104_2
       replace hx104_3 := pb HB.out hx104_3
       replace hx104_4 := pb HB.out hx104_4
       replace p104 := eq_true p104
       replace q104 := eq_true q104
       go_wp2_with (first | (go_at_call 40; (with_reducible refine (spec_l2Data.calls ((rd_T44 l0 x3_1).f1) false _ A9.out).mono ?_); rintro e w' ⟨rfl, ⟨nd, rfl⟩⟩; (try exact zecaha)))
       repeat (go_quiet (fail); try go_wp2)
       go_meet
       case rel => exact ⟨_, (true), zagbkp, H', ⟨by have := HK1.out; first | omega | exact Nat.le_refl _⟩, ⟨by repeat (first | (with_reducible first | exact HB.out | apply below_alloc | apply pw_below_drewN | apply below_drew1) | exact HB.out)⟩⟩
      case rest =>
       clear HC7
       try clear c1
       try clear p1
       try clear q1
       try clear hx1
       try clear c2
       try clear c2b0
       try clear c2b1
       try clear p2
       try clear c3
       try clear c3b0
       try clear c4
       try clear c4b0
       try clear c6
       try clear c6b0
       try clear c6b1
       try clear c10
       try clear p10
       try clear q10
       try clear hx10
       try clear p11
       try clear q11
       try clear hx11
       try clear c12
       try clear c14
       try clear hx101_0
       try clear hx101_1
       try clear hx101_2
       try clear hx101_3
       try clear hx101_4
       try clear hx102_0
       try clear hx102_1
       try clear hx102_2
       try clear hx102_3
       try clear hx102_4
       try clear hx104_0
       try clear hx104_1
       try clear hx104_2
       try clear hx104_3
       try clear hx104_4
       try clear hx106_0
       try clear hx106_1
       try clear hx106_2
       try clear hx106_3
       try clear hx106_4
       try clear hx108_0
       try clear hx108_1
       try clear hx108_2
       try clear hx108_3
       try clear hx108_4
       try clear hx110_0
       try clear hx110_1
       try clear hx110_2
       try clear hx110_3
       try clear hx110_4
       try clear p101
       try clear p102
       try clear p104
       try clear p106
       try clear p108
       try clear p110
       try clear p2
       try clear q101
       try clear q102
       try clear q104
       try clear q106
       try clear q108
       try clear q110
       obtain ⟨kq, x57_6, rfl, HA, HJ6, HB⟩ := hcut
       cases kq with
       | zero => exact absurd HA.out (by simp [spec_l2Fault.j1])
       | succ kj6 =>
        have H := HA.out
        clear HA
        simp only [spec_l2Fault.j1] at H
        by_cases c16 : x57_6 = true
        ·
         subst c16
         replace H : (some 3) = some r := by rw [if_pos rfl] at H; exact H
         obtain rfl := Option.some.inj H
         go_wp2
         repeat (go_quiet (fail); try go_wp2)
         go_ret
         exact ⟨by first | rfl | (simp [errW_none, errW_some] <;> rfl) | (simp [*, errW_none, errW_some] <;> rfl), by repeat (first | (with_reducible first | exact HB.out | apply below_alloc | apply pw_below_drewN | apply below_drew1) | exact HB.out)⟩
        ·
         replace c16 := Bool.eq_false_iff.mpr c16
         subst c16
         replace H : (if x3_1 > 0 then (if 0 ≤ x3_1 then (if x3_1 < (l0.length : Int) then (if 0 ≤ (wrap64 (x3_1 - 1)) then (if (wrap64 (x3_1 - 1)) < (l0.length : Int) then (if ((Op.bytesLess (((rd_T44 l0 (wrap64 (x3_1 - 1))).f0).toList) (((rd_T44 l0 x3_1).f0).toList)) = true) then (spec_l2Fault.l0 kj6 l0 (wrap64 (x3_1 + 1))) else (some 1)) else (none)) else (none)) else (none)) else (none)) else (spec_l2Fault.l0 kj6 l0 (wrap64 (x3_1 + 1)))) = some r := by rw [if_neg (show ¬ (false = true) by decide)] at H; exact H
         by_cases c17 : x3_1 > 0
         ·
          rw [if_pos c17] at H
          have c17b0 : decide (0 < x3_1) = true := decide_eq_true c17
          clear c17
          by_cases c18 : 0 ≤ x3_1
          ·
           rw [if_pos c18] at H
           have c18b0 : decide (0 ≤ x3_1) = true := decide_eq_true c18
           clear c18
           by_cases c19 : x3_1 < (l0.length : Int)
           ·
            rw [if_pos c19] at H
            have c19b0 : decide (x3_1 < (l0.length : Int)) = true := decide_eq_true c19
            clear c19
            obtain ⟨ji20, hji20⟩ : ∃ j_ : Int, (wrap64 (x3_1 - 1)) = j_ := ⟨_, rfl⟩
            replace H : (if 0 ≤ (ji20) then (if (ji20) < (l0.length : Int) then (if ((Op.bytesLess (((rd_T44 l0 (ji20)).f0).toList) (((rd_T44 l0 x3_1).f0).toList)) = true) then (spec_l2Fault.l0 kj6 l0 (wrap64 (x3_1 + 1))) else (some 1)) else (none)) else (none)) = some r := by first | (rw [hji20] at H; exact H) | (simp only [hji20] at H ⊢; exact H)
            have hji20w : (IntKind.i64.wrap (x3_1 - 1)) = ji20 := (i64_w _).trans hji20
            by_cases c21 : 0 ≤ (ji20)
            ·
             rw [if_pos c21] at H
             have c21b0 : decide (0 ≤ (ji20)) = true := decide_eq_true c21
             clear c21
             by_cases c22 : (ji20) < (l0.length : Int)
             ·
              rw [if_pos c22] at H
              have c22b0 : decide ((ji20) < (l0.length : Int)) = true := decide_eq_true c22
              clear c22
              by_cases c23 : ((Op.bytesLess (((rd_T44 l0 (ji20)).f0).toList) (((rd_T44 l0 x3_1).f0).toList)) = true)
              ·
               rw [if_pos c23] at H
               have c23b0 : (Op.bytesLess (((rd_T44 l0 (ji20)).f0).toList) (((rd_T44 l0 x3_1).f0).toList)) = true := c23
               have c23le_ : ∀ W_ : World, (binOp .leq 9 (.string ((rd_T44 l0 x3_1).f0)) (.string ((rd_T44 l0 (ji20)).f0))).run Tryd.prog W_ = Result.ok (.bool false) W_ := fun W_ => leq_false c23b0 W_
               clear c23
               have H' := aa H
               clear H
               have p112 : 0 ≤ (x3_1 : Int) := of_decide_eq_true zgglam
               have q112 : x3_1 < (l0.length : Int) := of_decide_eq_true zgglam
               obtain ⟨ad112, e112, hx112_0, hx112_1, hx112_2, hx112_3, hx112_4⟩ := at_T44 HR0.out x3_1 p112 q112
               obtain rfl : ad101 = ad112 := (by injection e112)
               replace hx112_0 := pb HB.out hx112_0
               replace hx112_1 := pb HB.out hx112_1
               replace hx112_2 := pb HB.out hx112_2
               replace hx112_3 := pb HB.out hx112_3
               replace hx112_4 := pb HB.out hx112_4
               replace p112 := eq_true p112
               replace q112 := eq_true q112
               have p113 : 0 ≤ ((ji20) : Int) := of_decide_eq_true zgglam
               have q113 : (ji20) < (l0.length : Int) := of_decide_eq_true zgglam
               obtain ⟨ad113, e113, hx113_0, hx113_1, hx113_2, hx113_3, hx113_4⟩ := at_T44 HR0.out (ji20) p113 q113
               obtain rfl : ad101 = ad113 := (by injection e113)
               replace hx113_0 := pb HB.out hx113_0
               replace hx113_1 := pb HB.out hx113_1
               replace hx113_2 := pb HB.out hx113_2
               replace hx113_3 := pb HB.out hx113_3
               replace hx113_4 := pb HB.out hx113_4
               replace p113 := eq_true p113
               replace q113 := eq_true q113
               go_wp2
               repeat (go_quiet (fail); try go_wp2)
               go_roundg kj6
               case measure => have := HK1.out; have := HJ6.out; omega
               case rel => exact ⟨(wrap64 (x3_1 + 1)), zagbkp, H', ⟨by have := HK1.out; have := HJ6.out; omega⟩, ⟨by repeat (first | (with_reducible first | exact HB.out | apply below_alloc | apply pw_below_drewN | apply below_drew1) | exact HB.out)⟩⟩
              rw [if_neg c23] at H
              have c23b0 : (Op.bytesLess (((rd_T44 l0 (ji20)).f0).toList) (((rd_T44 l0 x3_1).f0).toList)) = false := by simpa using c23
              have c23le_ : ∀ W_ : World, (binOp .leq 9 (.string ((rd_T44 l0 x3_1).f0)) (.string ((rd_T44 l0 (ji20)).f0))).run Tryd.prog W_ = Result.ok (.bool true) W_ := fun W_ => leq_true c23b0 W_
              clear c23
              obtain rfl := Option.some.inj H
              have p112 : 0 ≤ (x3_1 : Int) := of_decide_eq_true zgglam
              have q112 : x3_1 < (l0.length : Int) := of_decide_eq_true zgglam
              obtain ⟨ad112, e112, hx112_0, hx112_1, hx112_2, hx112_3, hx112_4⟩ := at_T44 HR0.out x3_1 p112 q112
              obtain rfl : ad101 = ad112 := (by injection e112)
              replace hx112_0 := pb HB.out hx112_0
              replace hx112_1 := pb HB.out hx112_1
              replace hx112_2 := pb HB.out hx112_2
              replace hx112_3 := pb HB.out hx112_3
              replace hx112_4 := pb HB.out hx112_4
              replace p112 := eq_true p112
              replace q112 := eq_true q112
              have p113 : 0 ≤ ((ji20) : Int) := of_decide_eq_true zgglam
              have q113 : (ji20) < (l0.length : Int) := of_decide_eq_true zgglam
              obtain ⟨ad113, e113, hx113_0, hx113_1, hx113_2, hx113_3, hx113_4⟩ := at_T44 HR0.out (ji20) p113 q113
              obtain rfl : ad101 = ad113 := (by injection e113)
              replace hx113_0 := pb HB.out hx113_0
              replace hx113_1 := pb HB.out hx113_1
              replace hx113_2 := pb HB.out hx113_2
              replace hx113_3 := pb HB.out hx113_3
              replace hx113_4 := pb HB.out hx113_4
              replace p113 := eq_true p113
              replace q113 := eq_true q113
              go_wp2
              repeat (go_quiet (fail); try go_wp2)
              go_ret
              exact ⟨by first | rfl | (simp [errW_none, errW_some] <;> rfl) | (simp only [← hji20]; first | rfl | (simp [errW_none, errW_some] <;> rfl)) | (simp [*, errW_none, errW_some] <;> rfl), by repeat (first | (with_reducible first | exact HB.out | apply below_alloc | apply pw_below_drewN | apply below_drew1) | exact HB.out)⟩
             rw [if_neg c22] at H
             exact absurd H (by simp)
            rw [if_neg c21] at H
            exact absurd H (by simp)
           rw [if_neg c19] at H
           exact absurd H (by simp)
          rw [if_neg c18] at H
          exact absurd H (by simp)
         rw [if_neg c17] at H
         have c17b0 : decide (0 < x3_1) = false := decide_eq_false c17
         clear c17
         have H' := aa H
         clear H
         go_wp2
         repeat (go_quiet (fail); try go_wp2)
         go_roundg kj6
         case measure => have := HK1.out; have := HJ6.out; omega
         case rel => exact ⟨(wrap64 (x3_1 + 1)), zagbkp, H', ⟨by have := HK1.out; have := HJ6.out; omega⟩, ⟨by repeat (first | (with_reducible first | exact HB.out | apply below_alloc | apply pw_below_drewN | apply below_drew1) | exact HB.out)⟩⟩
     rw [if_neg c6] at H
     have c6b0 : (t103 == 0) = false := beq_eq_false_iff_ne.mpr c6
     have c6b1 : (t103 != 0) = true := bne_iff_ne.mpr c6
     obtain rfl := Option.some.inj H
     have p101 : 0 ≤ (x3_1 : Int) := of_decide_eq_true zgglam
     have q101 : x3_1 < (l0.length : Int) := of_decide_eq_true zgglam
     obtain ⟨ad101, e101, hx101_0, hx101_1, hx101_2, hx101_3, hx101_4⟩ := at_T44 HR0.out x3_1 p101 q101
     cases e101
     replace hx101_0 := pb HB.out hx101_0
     replace hx101_1 := pb HB.out hx101_1
     replace hx101_2 := pb HB.out hx101_2
     replace hx101_3 := pb HB.out hx101_3
     replace hx101_4 := pb HB.out hx101_4
     replace p101 := eq_true p101
     replace q101 := eq_true q101
     have p102 : 0 ≤ (x3_1 : Int) := of_decide_eq_true zgglam
     have q102 : x3_1 < (l0.length : Int) := of_decide_eq_true zgglam
     obtain ⟨ad102, e102, hx102_0, hx102_1, hx102_2, hx102_3, hx102_4⟩ := at_T44 HR0.out x3_1 p102 q102
     obtain rfl : ad101 = ad102 := (by injection e102)
     replace hx102_0 := pb HB.out hx102_0
     replace hx102_1 := pb HB.out hx102_1
     replace hx102_2 := pb HB.out hx102_2
     replace hx102_3 := pb HB.out hx102_3
     replace hx102_4 := pb HB.out hx102_4
     replace p102 := eq_true p102
     replace q102 := eq_true q102
     go_wp2_with (first | (go_at_call 39; (with_reducible refine (spec_l1Fault.calls k1 ((rd_T44 l0 x3_1).f0) t103 _ A5.out).mono ?_); rintro e w24 ⟨rfl, hb⟩; replace HB := aa (below_step zjjbob hb); (try clear hb); (try clear hk); (try clear hi)))
     repeat (go_quiet (fail); try go_wp2)
     go_ret
     exact ⟨by first | rfl | (simp [errW_none, errW_some] <;> rfl) | (simp [*, errW_none, errW_some] <;> rfl), by repeat (first | (with_reducible first | exact HB.out | apply below_alloc | apply pw_below_drewN | apply below_drew1) | exact HB.out)⟩
    rw [if_neg c4] at H
    exact absurd H (by simp)
   ·
    rw [if_neg c3] at H
    have c3b0 : decide (x3_1 < (l0.length : Int)) = false := decide_eq_false c3
    clear c3
    revert H
    refine obs_ fun t114 A25 H => ?_
    by_cases c26 : t114 < 0
    ·
     rw [if_pos c26] at H
     have c26b0 : decide (t114 < 0) = true := decide_eq_true c26
     clear c26
     obtain rfl := Option.some.inj H
     go_wp2_with (first | (go_at_call 43; (with_reducible refine (spec_l2At.calls k1 _ _ l0 (⟨#[47]⟩ : ByteArray) t114 _ ?side1 ?side2 A25.out).mono ?_); (case side1 => exact zfmbgg); (case side2 => exact HC0.out); rintro e w' ⟨rfl, ⟨nd, rfl⟩⟩; (try exact zecaha)))
     repeat (go_quiet (fail); try go_wp2)
     go_ret
     exact ⟨by first | rfl | (simp [errW_none, errW_some] <;> rfl) | (simp [*, errW_none, errW_some] <;> rfl), by repeat (first | (with_reducible first | exact HB.out | apply below_alloc | apply pw_below_drewN | apply below_drew1) | exact HB.out)⟩
    rw [if_neg c26] at H
    have c26b0 : decide (t114 < 0) = false := decide_eq_false c26
    clear c26
    have H' := aa H
    clear H
    go_wp2_with (first | (go_at_call 43; (with_reducible refine (spec_l2At.calls k1 _ _ l0 (⟨#[47]⟩ : ByteArray) t114 _ ?side1 ?side2 A25.out).mono ?_); (case side1 => exact zfmbgg); (case side2 => exact HC0.out); rintro e w' ⟨rfl, ⟨nd, rfl⟩⟩; (try exact zecaha)))
    repeat (go_quiet (fail); try go_wp2)
    go_loopg [6] k1 (fun kq v6 w' => ∃ (x6_2 : Int), v6 = .int .i64 x6_2 ∧ Aside0 (spec_l2Fault.l1 kq l0 x6_2 = some r) ∧ Aside0 (kq ≤ k1) ∧ Aside0 (Below w.heap.size w w'))
    case atStart => exact ⟨(0), zagbkp, H', ⟨Nat.le_refl _⟩, ⟨by repeat (first | (with_reducible first | exact HB.out | apply below_alloc | apply pw_below_drewN | apply below_drew1) | exact HB.out)⟩⟩
    case round =>
     clear H'
     try clear c1
     try clear p1
     try clear q1
     try clear hx1
     try clear c2
     try clear c2b0
     try clear c2b1
     try clear p2
     try clear c3
     try clear c3b0
     try clear c4
     try clear c4b0
     try clear c6
     try clear c6b0
     try clear c6b1
     try clear p6
     try clear c10
     try clear p10
     try clear q10
     try clear hx10
     try clear p11
     try clear q11
     try clear hx11
     try clear c12
     try clear c14
     try clear c16
     try clear c17
     try clear c17b0
     try clear c18
     try clear c18b0
     try clear c19
     try clear c19b0
     try clear c21
     try clear c21b0
     try clear c22
     try clear c22b0
     try clear c23
     try clear c23b0
     try clear c26
     try clear c26b0
     try clear hx101_0
     try clear hx101_1
     try clear hx101_2
     try clear hx101_3
     try clear hx101_4
     try clear hx102_0
     try clear hx102_1
     try clear hx102_2
     try clear hx102_3
     try clear hx102_4
     try clear hx104_0
     try clear hx104_1
     try clear hx104_2
     try clear hx104_3
     try clear hx104_4
     try clear hx106_0
     try clear hx106_1
     try clear hx106_2
     try clear hx106_3
     try clear hx106_4
     try clear hx108_0
     try clear hx108_1
     try clear hx108_2
     try clear hx108_3
     try clear hx108_4
     try clear hx110_0
     try clear hx110_1
     try clear hx110_2
     try clear hx110_3
     try clear hx110_4
     try clear hx112_0
     try clear hx112_1
     try clear hx112_2
     try clear hx112_3
     try clear hx112_4
     try clear hx113_0
     try clear hx113_1
     try clear hx113_2
     try clear hx113_3
     try clear hx113_4
     try clear p1
     try clear p10
     try clear p101
     try clear p102
     try clear p104
     try clear p106
     try clear p108
     try clear p11
     try clear p110
     try clear p112
     try clear p113
     try clear p2
     try clear q1
     try clear q10
     try clear q101
     try clear q102
     try clear q104
     try clear q106
     try clear q108
     try clear q11
     try clear q110
     try clear q112
     try clear q113
     obtain ⟨x6_2, rfl, HA, HK2, HB⟩ := hrel
     cases gk with
     | zero => exact absurd HA.out (by simp [spec_l2Fault.l1])
     | succ k2 =>
      have H := HA.out
      clear HA
      simp only [spec_l2Fault.l1] at H
      by_cases c27 : x6_2 < (l0.length : Int)
      ·
       rw [if_pos c27] at H
       have c27b0 : decide (x6_2 < (l0.length : Int)) = true := decide_eq_true c27
       clear c27
       by_cases c28 : 0 ≤ x6_2
       ·
        rw [if_pos c28] at H
        have c28b0 : decide (0 ≤ x6_2) = true := decide_eq_true c28
        clear c28
        revert H
        refine obs_ fun t116 A29 H => ?_
        revert H
        refine obs_ fun t117 A30 H => ?_
        by_cases c31 : t117 < 0
        ·
         rw [if_pos c31] at H
         have c31b0 : decide (t117 < 0) = true := decide_eq_true c31
         clear c31
         obtain rfl := Option.some.inj H
         have p115 : 0 ≤ (x6_2 : Int) := of_decide_eq_true zgglam
         have q115 : x6_2 < (l0.length : Int) := of_decide_eq_true zgglam
         obtain ⟨ad115, e115, hx115_0, hx115_1, hx115_2, hx115_3, hx115_4⟩ := at_T44 HR0.out x6_2 p115 q115
         cases e115
         replace hx115_0 := pb HB.out hx115_0
         replace hx115_1 := pb HB.out hx115_1
         replace hx115_2 := pb HB.out hx115_2
         replace hx115_3 := pb HB.out hx115_3
         replace hx115_4 := pb HB.out hx115_4
         replace p115 := eq_true p115
         replace q115 := eq_true q115
         go_wp2_with (first | (go_at_call 44; (with_reducible refine (spec_l1Parent.calls k2 ((rd_T44 l0 x6_2).f0) t116 _ A29.out).mono ?_); rintro e w' ⟨rfl, ⟨nd, rfl⟩⟩; (try exact zecaha)) | (go_at_call 43; (with_reducible refine (spec_l2At.calls k2 _ _ l0 t116 t117 _ ?side1 ?side2 A30.out).mono ?_); (case side1 => exact zifmbg); (case side2 => exact HC0.out); rintro e w' ⟨rfl, ⟨nd, rfl⟩⟩; (try exact zecaha)))
         repeat (go_quiet (fail); try go_wp2)
         go_ret
         exact ⟨by first | rfl | (simp [errW_none, errW_some] <;> rfl) | (simp [*, errW_none, errW_some] <;> rfl), by repeat (first | (with_reducible first | exact HB.out | apply below_alloc | apply pw_below_drewN | apply below_drew1) | exact HB.out)⟩
        rw [if_neg c31] at H
        have c31b0 : decide (t117 < 0) = false := decide_eq_false c31
        clear c31
        have H' := aa H
        clear H
        have p115 : 0 ≤ (x6_2 : Int) := of_decide_eq_true zgglam
        have q115 : x6_2 < (l0.length : Int) := of_decide_eq_true zgglam
        obtain ⟨ad115, e115, hx115_0, hx115_1, hx115_2, hx115_3, hx115_4⟩ := at_T44 HR0.out x6_2 p115 q115
        cases e115
        replace hx115_0 := pb HB.out hx115_0
        replace hx115_1 := pb HB.out hx115_1
        replace hx115_2 := pb HB.out hx115_2
        replace hx115_3 := pb HB.out hx115_3
        replace hx115_4 := pb HB.out hx115_4
        replace p115 := eq_true p115
        replace q115 := eq_true q115
        go_wp2_with (first | (go_at_call 44; (with_reducible refine (spec_l1Parent.calls k2 ((rd_T44 l0 x6_2).f0) t116 _ A29.out).mono ?_); rintro e w' ⟨rfl, ⟨nd, rfl⟩⟩; (try exact zecaha)) | (go_at_call 43; (with_reducible refine (spec_l2At.calls k2 _ _ l0 t116 t117 _ ?side1 ?side2 A30.out).mono ?_); (case side1 => exact zifmbg); (case side2 => exact HC0.out); rintro e w' ⟨rfl, ⟨nd, rfl⟩⟩; (try exact zecaha)))
        repeat (go_quiet (fail); try go_wp2)
        go_roundg k2
        case measure => have := HK1.out; have := HK2.out; omega
        case rel => exact ⟨(wrap64 (x6_2 + 1)), zagbkp, H', ⟨by have := HK1.out; have := HK2.out; omega⟩, ⟨by repeat (first | (with_reducible first | exact HB.out | apply below_alloc | apply pw_below_drewN | apply below_drew1) | exact HB.out)⟩⟩
       rw [if_neg c28] at H
       exact absurd H (by simp)
      ·
       rw [if_neg c27] at H
       have c27b0 : decide (x6_2 < (l0.length : Int)) = false := decide_eq_false c27
       clear c27
       have H' := aa H
       clear H
       go_wp2
       repeat (go_quiet (fail); try go_wp2)
       go_loopg [7] k2 (fun kq v7 w' => ∃ (x7_3 : Int), v7 = .int .i64 x7_3 ∧ Aside0 (spec_l2Fault.l2 kq l0 x7_3 = some r) ∧ Aside0 (kq ≤ k2) ∧ Aside0 (Below w.heap.size w w'))
       case atStart => exact ⟨(0), zagbkp, H', ⟨Nat.le_refl _⟩, ⟨by repeat (first | (with_reducible first | exact HB.out | apply below_alloc | apply pw_below_drewN | apply below_drew1) | exact HB.out)⟩⟩
       case round =>
        clear H'
        try clear c1
        try clear p1
        try clear q1
        try clear hx1
        try clear c2
        try clear c2b0
        try clear c2b1
        try clear p2
        try clear c3
        try clear c3b0
        try clear c4
        try clear c4b0
        try clear c6
        try clear c6b0
        try clear c6b1
        try clear p6
        try clear c10
        try clear p10
        try clear q10
        try clear hx10
        try clear p11
        try clear q11
        try clear hx11
        try clear c12
        try clear c14
        try clear c16
        try clear c17
        try clear c17b0
        try clear c18
        try clear c18b0
        try clear c19
        try clear c19b0
        try clear c21
        try clear c21b0
        try clear c22
        try clear c22b0
        try clear c23
        try clear c23b0
        try clear c26
        try clear c26b0
        try clear c27
        try clear c27b0
        try clear c28
        try clear c28b0
        try clear c31
        try clear c31b0
        try clear hx101_0
        try clear hx101_1
        try clear hx101_2
        try clear hx101_3
        try clear hx101_4
        try clear hx102_0
        try clear hx102_1
        try clear hx102_2
        try clear hx102_3
        try clear hx102_4
        try clear hx104_0
        try clear hx104_1
        try clear hx104_2
        try clear hx104_3
        try clear hx104_4
        try clear hx106_0
        try clear hx106_1
        try clear hx106_2
        try clear hx106_3
        try clear hx106_4
        try clear hx108_0
        try clear hx108_1
        try clear hx108_2
        try clear hx108_3
        try clear hx108_4
        try clear hx110_0
        try clear hx110_1
        try clear hx110_2
        try clear hx110_3
        try clear hx110_4
        try clear hx112_0
        try clear hx112_1
        try clear hx112_2
        try clear hx112_3
        try clear hx112_4
        try clear hx113_0
        try clear hx113_1
        try clear hx113_2
        try clear hx113_3
        try clear hx113_4
        try clear hx115_0
        try clear hx115_1
        try clear hx115_2
        try clear hx115_3
        try clear hx115_4
        try clear p1
        try clear p10
        try clear p101
        try clear p102
        try clear p104
        try clear p106
        try clear p108
        try clear p11
        try clear p110
        try clear p112
        try clear p113
        try clear p115
        try clear p2
        try clear p6
        try clear q1
        try clear q10
        try clear q101
        try clear q102
        try clear q104
        try clear q106
        try clear q108
        try clear q11
        try clear q110
        try clear q112
        try clear q113
        try clear q115
        obtain ⟨x7_3, rfl, HA, HK3, HB⟩ := hrel
        cases gk with
        | zero => exact absurd HA.out (by simp [spec_l2Fault.l2])
        | succ k3 =>
         have H := HA.out
         clear HA
         simp only [spec_l2Fault.l2] at H
         by_cases c32 : x7_3 < (l0.length : Int)
         ·
          rw [if_pos c32] at H
          have c32b0 : decide (x7_3 < (l0.length : Int)) = true := decide_eq_true c32
          clear c32
          by_cases c33 : 0 ≤ x7_3
          ·
           rw [if_pos c33] at H
           have c33b0 : decide (0 ≤ x7_3) = true := decide_eq_true c33
           clear c33
           revert H
           refine obs_ fun t119 A34 H => ?_
           revert H
           refine obs_ fun t120 A35 H => ?_
           by_cases c36 : 0 ≤ t120
           ·
            rw [if_pos c36] at H
            have c36b0 : decide (0 ≤ t120) = true := decide_eq_true c36
            clear c36
            by_cases c37 : t120 < (l0.length : Int)
            ·
             rw [if_pos c37] at H
             have c37b0 : decide (t120 < (l0.length : Int)) = true := decide_eq_true c37
             clear c37
             by_cases c38 : ((rd_T44 l0 t120).f3) = 0
             ·
              rw [if_pos c38] at H
              have c38b0 : (((rd_T44 l0 t120).f3) == 0) = true := beq_iff_eq.mpr c38
              have c38b1 : (((rd_T44 l0 t120).f3) != 0) = false := bne_eq_false_iff_eq.mpr c38
              clear c38
              have H' := aa H
              clear H
              have p118 : 0 ≤ (x7_3 : Int) := of_decide_eq_true zgglam
              have q118 : x7_3 < (l0.length : Int) := of_decide_eq_true zgglam
              obtain ⟨ad118, e118, hx118_0, hx118_1, hx118_2, hx118_3, hx118_4⟩ := at_T44 HR0.out x7_3 p118 q118
              cases e118
              replace hx118_0 := pb HB.out hx118_0
              replace hx118_1 := pb HB.out hx118_1
              replace hx118_2 := pb HB.out hx118_2
              replace hx118_3 := pb HB.out hx118_3
              replace hx118_4 := pb HB.out hx118_4
              replace p118 := eq_true p118
              replace q118 := eq_true q118
              go_wp2_with (first | (go_at_call 44; (with_reducible refine (spec_l1Parent.calls k3 ((rd_T44 l0 x7_3).f0) t119 _ A34.out).mono ?_); rintro e w' ⟨rfl, ⟨nd, rfl⟩⟩; (try exact zecaha)) | (go_at_call 43; (with_reducible refine (spec_l2At.calls k3 _ _ l0 t119 t120 _ ?side1 ?side2 A35.out).mono ?_); (case side1 => exact zifmbg); (case side2 => exact HC0.out); rintro e w' ⟨rfl, ⟨nd, rfl⟩⟩; (try exact zecaha); have p121 : 0 ≤ (t120 : Int) := of_decide_eq_true zgglam; have q121 : t120 < (l0.length : Int) := of_decide_eq_true zgglam; obtain ⟨ad121, e121, hx121_0, hx121_1, hx121_2, hx121_3, hx121_4⟩ := at_T44 HR0.out t120 p121 q121; obtain rfl : ad118 = ad121 := (by injection e121); replace hx121_0 := pb HB.out hx121_0; replace hx121_1 := pb HB.out hx121_1; replace hx121_2 := pb HB.out hx121_2; replace hx121_3 := pb HB.out hx121_3; replace hx121_4 := pb HB.out hx121_4; replace p121 := eq_true p121; replace q121 := eq_true q121))
              repeat (go_quiet (fail); try go_wp2)
              go_roundg k3
              case measure => have := HK1.out; have := HK2.out; have := HK3.out; omega
              case rel => exact ⟨(wrap64 (x7_3 + 1)), zagbkp, H', ⟨by have := HK1.out; have := HK2.out; have := HK3.out; omega⟩, ⟨by repeat (first | (with_reducible first | exact HB.out | apply below_alloc | apply pw_below_drewN | apply below_drew1) | exact HB.out)⟩⟩
             rw [if_neg c38] at H
             have c38b0 : (((rd_T44 l0 t120).f3) == 0) = false := beq_eq_false_iff_ne.mpr c38
             have c38b1 : (((rd_T44 l0 t120).f3) != 0) = true := bne_iff_ne.mpr c38
             obtain rfl := Option.some.inj H
             have p118 : 0 ≤ (x7_3 : Int) := of_decide_eq_true zgglam
             have q118 : x7_3 < (l0.length : Int) := of_decide_eq_true zgglam
             obtain ⟨ad118, e118, hx118_0, hx118_1, hx118_2, hx118_3, hx118_4⟩ := at_T44 HR0.out x7_3 p118 q118
             cases e118
             replace hx118_0 := pb HB.out hx118_0
             replace hx118_1 := pb HB.out hx118_1
             replace hx118_2 := pb HB.out hx118_2
             replace hx118_3 := pb HB.out hx118_3
             replace hx118_4 := pb HB.out hx118_4
             replace p118 := eq_true p118
             replace q118 := eq_true q118
             go_wp2_with (first | (go_at_call 44; (with_reducible refine (spec_l1Parent.calls k3 ((rd_T44 l0 x7_3).f0) t119 _ A34.out).mono ?_); rintro e w' ⟨rfl, ⟨nd, rfl⟩⟩; (try exact zecaha)) | (go_at_call 43; (with_reducible refine (spec_l2At.calls k3 _ _ l0 t119 t120 _ ?side1 ?side2 A35.out).mono ?_); (case side1 => exact zifmbg); (case side2 => exact HC0.out); rintro e w' ⟨rfl, ⟨nd, rfl⟩⟩; (try exact zecaha); have p121 : 0 ≤ (t120 : Int) := of_decide_eq_true zgglam; have q121 : t120 < (l0.length : Int) := of_decide_eq_true zgglam; obtain ⟨ad121, e121, hx121_0, hx121_1, hx121_2, hx121_3, hx121_4⟩ := at_T44 HR0.out t120 p121 q121; obtain rfl : ad118 = ad121 := (by injection e121); replace hx121_0 := pb HB.out hx121_0; replace hx121_1 := pb HB.out hx121_1; replace hx121_2 := pb HB.out hx121_2; replace hx121_3 := pb HB.out hx121_3; replace hx121_4 := pb HB.out hx121_4; replace p121 := eq_true p121; replace q121 := eq_true q121))
             repeat (go_quiet (fail); try go_wp2)
             go_ret
             exact ⟨by first | rfl | (simp [errW_none, errW_some] <;> rfl) | (simp [*, errW_none, errW_some] <;> rfl), by repeat (first | (with_reducible first | exact HB.out | apply below_alloc | apply pw_below_drewN | apply below_drew1) | exact HB.out)⟩
            rw [if_neg c37] at H
            exact absurd H (by simp)
           rw [if_neg c36] at H
           exact absurd H (by simp)
          rw [if_neg c33] at H
          exact absurd H (by simp)
         ·
          rw [if_neg c32] at H
          have c32b0 : decide (x7_3 < (l0.length : Int)) = false := decide_eq_false c32
          clear c32
          obtain rfl := Option.some.inj H
          go_wp2
          repeat (go_quiet (fail); try go_wp2)
          go_ret
          exact ⟨by first | rfl | (simp [errW_none, errW_some] <;> rfl) | (simp [*, errW_none, errW_some] <;> rfl), by repeat (first | (with_reducible first | exact HB.out | apply below_alloc | apply pw_below_drewN | apply below_drew1) | exact HB.out)⟩

end Go.Proofs.YtajlnffefoeppaaDoor.Qa
