import Derived.Test.YtajlnffefoeppaaDoorQax0
namespace Go.Proofs.YtajlnffefoeppaaDoor.Qa
open Go.RowKit Go.Proofs.YtajlnffefoeppaaDoorW.PrintWords Go.Proofs.YtajlnffefoeppaaDoorW.PrintLast Go.Proofs.YtajlnffefoeppaaDoorW.PrintMore
attribute [local go_sem] max2_int min2_int max_two min_two max_three min_three max_four min_four
set_option linter.unusedVariables false
set_option linter.unusedSimpArgs false
set_option maxHeartbeats 8000000
set_option maxRecDepth 100000

/-! ### spec_l4Drop: function 25 -/
mutual
def spec_l4Drop.l0 : Nat → List (S44) → List Int → List (S44) → Int → Option ((List (S44)))
 | 0, _, _, _, _ => none
 | k + 1, x0, x1, x5, x6 => if x6 < (x0.length : Int) then (spec_l4Drop.l1 k x0 x1 x5 x6 false 0) else (some x5)
def spec_l4Drop.l1 : Nat → List (S44) → List Int → List (S44) → Int → Bool → Int → Option ((List (S44)))
 | 0, _, _, _, _, _, _ => none
 | k + 1, x0, x1, x5, x6, x7, x8 => if x8 < (x1.length : Int) then (if x7 = true then (spec_l4Drop.l1 k x0 x1 x5 x6 true (wrap64 (x8 + 1))) else (if 0 ≤ x6 then (if x6 < (x0.length : Int) then (if ((rd_T44 x0 x6).f3) = 0 then (spec_l4Drop.l1 k x0 x1 x5 x6 false (wrap64 (x8 + 1))) else (if 0 ≤ x8 then (spec_l4Drop.l1 k x0 x1 x5 x6 (((rd_T44 x0 x6).f3) == (rd x1 x8)) (wrap64 (x8 + 1))) else (none))) else (none)) else (none))) else (if x7 = true then (spec_l4Drop.l0 k x0 x1 x5 (wrap64 (x6 + 1))) else (if 0 ≤ x6 then (if x6 < (x0.length : Int) then (if x5.length < 2932031007402 then (spec_l4Drop.l0 k x0 x1 (x5 ++ [(⟨(rd_T44 x0 x6).f0, (rd_T44 x0 x6).f1, (rd_T44 x0 x6).f2, (rd_T44 x0 x6).f3, (rd_T44 x0 x6).f4⟩ : S44)]) (wrap64 (x6 + 1))) else (none)) else (none)) else (none)))
end
def spec_l4Drop.f (k : Nat) (l0 : List (S44)) (l1 : List Int) : Option ((List (S44))) := spec_l4Drop.l0 k l0 l1 (([] : List (S44))) 0
theorem spec_l4Drop.mono_l : ∀ k, (∀ y0 y1 y2 y3, LeO (spec_l4Drop.l0 k y0 y1 y2 y3) (spec_l4Drop.l0 (k + 1) y0 y1 y2 y3)) ∧ (∀ y0 y1 y2 y3 y4 y5, LeO (spec_l4Drop.l1 k y0 y1 y2 y3 y4 y5) (spec_l4Drop.l1 (k + 1) y0 y1 y2 y3 y4 y5))
 | 0 => ⟨fun _ _ _ _ r h => by simp [spec_l4Drop.l0] at h, fun _ _ _ _ _ _ r h => by simp [spec_l4Drop.l1] at h⟩
 | k + 1 => by
  obtain ⟨ih0, ih1⟩ := spec_l4Drop.mono_l k
  refine ⟨?_, ?_⟩
  ·
   intro y0 y1 y2 y3
   unfold spec_l4Drop.l0
   repeat' first
   | (with_reducible exact ih0 _ _ _ _)
   | (with_reducible exact ih1 _ _ _ _ _ _)
   | (with_reducible exact LeO.refl _)
   | (with_reducible exact LeO.none _)
   | (with_reducible refine LeO.ite ?_ ?_)
   | (with_reducible refine LeO.bind ?_ (fun _ => ?_))
  ·
   intro y0 y1 y2 y3 y4 y5
   unfold spec_l4Drop.l1
   repeat' first
   | (with_reducible exact ih0 _ _ _ _)
   | (with_reducible exact ih1 _ _ _ _ _ _)
   | (with_reducible exact LeO.refl _)
   | (with_reducible exact LeO.none _)
   | (with_reducible refine LeO.ite ?_ ?_)
   | (with_reducible refine LeO.bind ?_ (fun _ => ?_))
theorem spec_l4Drop.mono : ∀ a0 a1 k, LeO (spec_l4Drop.f k a0 a1) (spec_l4Drop.f (k + 1) a0 a1) := by
 intro a0 a1 k
 obtain ⟨ih0, ih1⟩ := spec_l4Drop.mono_l k
 unfold spec_l4Drop.f
 repeat' first
   | (with_reducible exact ih0 _ _ _ _)
   | (with_reducible exact ih1 _ _ _ _ _ _)
   | (with_reducible exact LeO.refl _)
   | (with_reducible exact LeO.none _)
   | (with_reducible refine LeO.ite ?_ ?_)
   | (with_reducible refine LeO.bind ?_ (fun _ => ?_))
theorem spec_l4Drop.calls (k : Nat) (A0 : Option Addr) (c0 : Nat) (l0 : List (S44)) (A1 : Option Addr) (c1 : Nat) (l1 : List Int) (r : List (S44)) (w : World) (hr0 : Kd.C k44 w A0 l0.length l0) (hc0 : l0.length ≤ c0) (hr1 : Kd.C (Kd.int .i64) w A1 l1.length l1) (hc1 : l1.length ≤ c1) (h : spec_l4Drop.f k l0 l1 = some r) :
  Calls Tryd.prog 25 #[.slice A0 l0.length c0, .slice A1 l1.length c1] w fun e w' => ∃ v0_ : Value, e = .returned (v0_) ∧ Kd.R k44 44 w' w.heap.size (fun _ => True) v0_ r ∧ Below w.heap.size w w' := by
 have hu44 := Tryd.underlying44
 have HR0 := aa hr0
 have HC0 := aa hc0
 clear hr0 hc0
 have HR1 := aa hr1
 have HC1 := aa hc1
 clear hr1 hc1
 have HB := aa (Below.refl w.heap.size w)
 have H : (spec_l4Drop.l0 k l0 l1 (([] : List (S44))) 0) = some r := h
 clear h
 obtain ⟨y101, hy101⟩ : ∃ y_ : List (S44), y_ = (([] : List (S44))) := ⟨_, rfl⟩
 replace H : (spec_l4Drop.l0 k l0 l1 y101 0) = some r := by first | (rw [hy101]; with_reducible exact H) | (have H2_ := (Option.bind_some _ _).symm.trans H; rw [hy101]; with_reducible exact H2_) | (have H2_ := (Option.bind_some _ _).symm.trans H; with_reducible exact H2_) | with_reducible exact H | (rw [hy101]; exact H) | exact H
 have Ny101 := aa hy101
 clear hy101
 have H' := aa H
 clear H
 go_enter Tryd.func25, Tryd.ntmps25
 go_wp2_with (first | ((with_reducible refine gate_dst (N := 9) rfl ?_); refine Kd.R_lit k44 _ 44 ?hg (N := 9) ?hd (xs := ([] : List (S44))) (inner := []) (ok := fun _ => True) (okp := fun _ => True) ?hr ?hp (fun _ hk => hk) trivial (Below.refl _ _) (Nat.le_refl _) (by simp) ?_; (case hd => rfl); (case hg => rfl); (case hr => exact zhlgcp); (case hp => exact (Reps.none _ _)); intro v102 w3 ho4 hb hg_ hnew_; clear hg_ hnew_; (first | rw [← Ny101.out] at ho4 | (simp only [Int.reduceToNat] at ho4; rw [← Ny101.out] at ho4)); have HO103 := aa (Kd.R_lower ho4 (below_size zjjbob)); replace HB := aa (below_step zjjbob hb); clear hb ho4))
 repeat (go_quiet (first | ((with_reducible refine gate_dst (N := 9) rfl ?_); refine Kd.R_lit k44 _ 44 ?hg (N := 9) ?hd (xs := ([] : List (S44))) (inner := []) (ok := fun _ => True) (okp := fun _ => True) ?hr ?hp (fun _ hk => hk) trivial (Below.refl _ _) (Nat.le_refl _) (by simp) ?_; (case hd => rfl); (case hg => rfl); (case hr => exact zhlgcp); (case hp => exact (Reps.none _ _)); intro v102 w3 ho4 hb hg_ hnew_; clear hg_ hnew_; (first | rw [← Ny101.out] at ho4 | (simp only [Int.reduceToNat] at ho4; rw [← Ny101.out] at ho4)); have HO103 := aa (Kd.R_lower ho4 (below_size zjjbob)); replace HB := aa (below_step zjjbob hb); clear hb ho4)); try go_wp2_with (first | ((with_reducible refine gate_dst (N := 9) rfl ?_); refine Kd.R_lit k44 _ 44 ?hg (N := 9) ?hd (xs := ([] : List (S44))) (inner := []) (ok := fun _ => True) (okp := fun _ => True) ?hr ?hp (fun _ hk => hk) trivial (Below.refl _ _) (Nat.le_refl _) (by simp) ?_; (case hd => rfl); (case hg => rfl); (case hr => exact zhlgcp); (case hp => exact (Reps.none _ _)); intro v102 w3 ho4 hb hg_ hnew_; clear hg_ hnew_; (first | rw [← Ny101.out] at ho4 | (simp only [Int.reduceToNat] at ho4; rw [← Ny101.out] at ho4)); have HO103 := aa (Kd.R_lower ho4 (below_size zjjbob)); replace HB := aa (below_step zjjbob hb); clear hb ho4)))
 go_loopg [5, 6] k (fun kq v5 v6 w' => ∃ (x5_1 : List (S44)) (x6_1 : Int), v6 = .int .i64 x6_1 ∧ Aside0 (spec_l4Drop.l0 kq l0 l1 x5_1 x6_1 = some r) ∧ Aside0 (kq ≤ k) ∧ Aside0 (Kd.R k44 44 w' w.heap.size (fun _ => True) v5 x5_1) ∧ Aside0 (Below w.heap.size w w'))
 case atStart => exact ⟨(y101), (0), zagbkp, H', ⟨Nat.le_refl _⟩, ⟨by (with_reducible repeat (first | apply Kd.R_alloc | apply Kd.R_drewN | apply Kd.R_drew)); exact HO103.out⟩, ⟨by repeat (first | (with_reducible first | exact HB.out | apply below_alloc | apply pw_below_drewN | apply below_drew1) | exact HB.out)⟩⟩
 case round =>
  clear H'
  try clear c1
  try clear c2
  try clear p2
  obtain ⟨x5_1, x6_1, rfl, HA, HK1, HO_5, HB⟩ := hrel
  cases gk with
  | zero => exact absurd HA.out (by simp [spec_l4Drop.l0])
  | succ k1 =>
   have H := HA.out
   clear HA
   simp only [spec_l4Drop.l0] at H
   by_cases c5 : x6_1 < (l0.length : Int)
   ·
    rw [if_pos c5] at H
    have c5b0 : decide (x6_1 < (l0.length : Int)) = true := decide_eq_true c5
    clear c5
    have H' := aa H
    clear H
    go_wp2
    repeat (go_quiet (fail); try go_wp2)
    go_loopg [7, 8] k1 (fun kq v7 v8 w' => ∃ (x7_2 : Bool) (x8_2 : Int), v7 = .bool x7_2 ∧ v8 = .int .i64 x8_2 ∧ Aside0 (spec_l4Drop.l1 kq l0 l1 x5_1 x6_1 x7_2 x8_2 = some r) ∧ Aside0 (kq ≤ k1) ∧ Aside0 (Kd.R k44 44 w' w.heap.size (fun _ => True) u5 x5_1) ∧ Aside0 (Below w.heap.size w w'))
    case atStart => exact ⟨(false), (0), zagbkp, zagbkp, H', ⟨Nat.le_refl _⟩, ⟨by (with_reducible repeat (first | apply Kd.R_alloc | apply Kd.R_drewN | apply Kd.R_drew)); exact HO_5.out⟩, ⟨by repeat (first | (with_reducible first | exact HB.out | apply below_alloc | apply pw_below_drewN | apply below_drew1) | exact HB.out)⟩⟩
    case round =>
     clear H'
     try clear c1
     try clear c2
     try clear p2
     try clear c5
     try clear c5b0
     try clear p2
     obtain ⟨x7_2, x8_2, rfl, rfl, HA, HK2, HO_5, HB⟩ := hrel
     cases gk with
     | zero => exact absurd HA.out (by simp [spec_l4Drop.l1])
     | succ k2 =>
      have H := HA.out
      clear HA
      simp only [spec_l4Drop.l1] at H
      by_cases c6 : x8_2 < (l1.length : Int)
      ·
       rw [if_pos c6] at H
       have c6b0 : decide (x8_2 < (l1.length : Int)) = true := decide_eq_true c6
       clear c6
       by_cases c7 : x7_2 = true
       ·
        subst c7
        replace H : (spec_l4Drop.l1 k2 l0 l1 x5_1 x6_1 true (wrap64 (x8_2 + 1))) = some r := by rw [if_pos rfl] at H; exact H
        have H' := aa H
        clear H
        go_wp2
        repeat (go_quiet (fail); try go_wp2)
        go_roundg k2
        case measure => have := HK1.out; have := HK2.out; omega
        case rel => exact ⟨(true), (wrap64 (x8_2 + 1)), zagbkp, zagbkp, H', ⟨by have := HK1.out; have := HK2.out; omega⟩, ⟨by (with_reducible repeat (first | apply Kd.R_alloc | apply Kd.R_drewN | apply Kd.R_drew)); exact HO_5.out⟩, ⟨by repeat (first | (with_reducible first | exact HB.out | apply below_alloc | apply pw_below_drewN | apply below_drew1) | exact HB.out)⟩⟩
       replace c7 := Bool.eq_false_iff.mpr c7
       subst c7
       replace H : (if 0 ≤ x6_1 then (if x6_1 < (l0.length : Int) then (if ((rd_T44 l0 x6_1).f3) = 0 then (spec_l4Drop.l1 k2 l0 l1 x5_1 x6_1 false (wrap64 (x8_2 + 1))) else (if 0 ≤ x8_2 then (spec_l4Drop.l1 k2 l0 l1 x5_1 x6_1 (((rd_T44 l0 x6_1).f3) == (rd l1 x8_2)) (wrap64 (x8_2 + 1))) else (none))) else (none)) else (none)) = some r := by rw [if_neg (show ¬ (false = true) by decide)] at H; exact H
       by_cases c8 : 0 ≤ x6_1
       ·
        rw [if_pos c8] at H
        have c8b0 : decide (0 ≤ x6_1) = true := decide_eq_true c8
        clear c8
        by_cases c9 : x6_1 < (l0.length : Int)
        ·
         rw [if_pos c9] at H
         have c9b0 : decide (x6_1 < (l0.length : Int)) = true := decide_eq_true c9
         clear c9
         by_cases c10 : ((rd_T44 l0 x6_1).f3) = 0
         ·
          rw [if_pos c10] at H
          have c10b0 : (((rd_T44 l0 x6_1).f3) == 0) = true := beq_iff_eq.mpr c10
          have c10b1 : (((rd_T44 l0 x6_1).f3) != 0) = false := bne_eq_false_iff_eq.mpr c10
          clear c10
          have H' := aa H
          clear H
          have p104 : 0 ≤ (x6_1 : Int) := of_decide_eq_true zgglam
          have q104 : x6_1 < (l0.length : Int) := of_decide_eq_true zgglam
          obtain ⟨ad104, e104, hx104_0, hx104_1, hx104_2, hx104_3, hx104_4⟩ := at_T44 HR0.out x6_1 p104 q104
          cases e104
          replace hx104_0 := pb HB.out hx104_0
          replace hx104_1 := pb HB.out hx104_1
          replace hx104_2 := pb HB.out hx104_2
          replace hx104_3 := pb HB.out hx104_3
          replace hx104_4 := pb HB.out hx104_4
          replace p104 := eq_true p104
          replace q104 := eq_true q104
          go_wp2
          repeat (go_quiet (fail); try go_wp2)
          go_roundg k2
          case measure => have := HK1.out; have := HK2.out; omega
          case rel => exact ⟨(false), (wrap64 (x8_2 + 1)), zagbkp, zagbkp, H', ⟨by have := HK1.out; have := HK2.out; omega⟩, ⟨by (with_reducible repeat (first | apply Kd.R_alloc | apply Kd.R_drewN | apply Kd.R_drew)); exact HO_5.out⟩, ⟨by repeat (first | (with_reducible first | exact HB.out | apply below_alloc | apply pw_below_drewN | apply below_drew1) | exact HB.out)⟩⟩
         rw [if_neg c10] at H
         have c10b0 : (((rd_T44 l0 x6_1).f3) == 0) = false := beq_eq_false_iff_ne.mpr c10
         have c10b1 : (((rd_T44 l0 x6_1).f3) != 0) = true := bne_iff_ne.mpr c10
         by_cases c11 : 0 ≤ x8_2
         ·
          rw [if_pos c11] at H
          have c11b0 : decide (0 ≤ x8_2) = true := decide_eq_true c11
          clear c11
          have H' := aa H
          clear H
          have p104 : 0 ≤ (x6_1 : Int) := of_decide_eq_true zgglam
          have q104 : x6_1 < (l0.length : Int) := of_decide_eq_true zgglam
          obtain ⟨ad104, e104, hx104_0, hx104_1, hx104_2, hx104_3, hx104_4⟩ := at_T44 HR0.out x6_1 p104 q104
          cases e104
          replace hx104_0 := pb HB.out hx104_0
          replace hx104_1 := pb HB.out hx104_1
          replace hx104_2 := pb HB.out hx104_2
          replace hx104_3 := pb HB.out hx104_3
          replace hx104_4 := pb HB.out hx104_4
          replace p104 := eq_true p104
          replace q104 := eq_true q104
          have p105 : 0 ≤ (x6_1 : Int) := of_decide_eq_true zgglam
          have q105 : x6_1 < (l0.length : Int) := of_decide_eq_true zgglam
          obtain ⟨ad105, e105, hx105_0, hx105_1, hx105_2, hx105_3, hx105_4⟩ := at_T44 HR0.out x6_1 p105 q105
          obtain rfl : ad104 = ad105 := (by injection e105)
          replace hx105_0 := pb HB.out hx105_0
          replace hx105_1 := pb HB.out hx105_1
          replace hx105_2 := pb HB.out hx105_2
          replace hx105_3 := pb HB.out hx105_3
          replace hx105_4 := pb HB.out hx105_4
          replace p105 := eq_true p105
          replace q105 := eq_true q105
          have p106 : 0 ≤ (x8_2 : Int) := of_decide_eq_true zgglam
          have q106 : x8_2 < (l1.length : Int) := of_decide_eq_true zgglam
          obtain ⟨ad106, e106, hx106_0⟩ := Kd.at_int HR1.out x8_2 p106 q106
          cases e106
          replace hx106_0 := pb HB.out hx106_0
          replace p106 := eq_true p106
          replace q106 := eq_true q106
          go_wp2
          repeat (go_quiet (fail); try go_wp2)
          go_roundg k2
          case measure => have := HK1.out; have := HK2.out; omega
          case rel => exact ⟨((((rd_T44 l0 x6_1).f3) == (rd l1 x8_2))), (wrap64 (x8_2 + 1)), zagbkp, zagbkp, H', ⟨by have := HK1.out; have := HK2.out; omega⟩, ⟨by (with_reducible repeat (first | apply Kd.R_alloc | apply Kd.R_drewN | apply Kd.R_drew)); exact HO_5.out⟩, ⟨by repeat (first | (with_reducible first | exact HB.out | apply below_alloc | apply pw_below_drewN | apply below_drew1) | exact HB.out)⟩⟩
         rw [if_neg c11] at H
         exact absurd H (by simp)
        rw [if_neg c9] at H
        exact absurd H (by simp)
       rw [if_neg c8] at H
       exact absurd H (by simp)
      ·
       rw [if_neg c6] at H
       have c6b0 : decide (x8_2 < (l1.length : Int)) = false := decide_eq_false c6
       clear c6
       by_cases c12 : x7_2 = true
       ·
        subst c12
        replace H : (spec_l4Drop.l0 k2 l0 l1 x5_1 (wrap64 (x6_1 + 1))) = some r := by rw [if_pos rfl] at H; exact H
        have H' := aa H
        clear H
        go_wp2
        repeat (go_quiet (fail); try go_wp2)
        go_roundg k2
        case measure => have := HK1.out; have := HK2.out; omega
        case rel => exact ⟨(x5_1), (wrap64 (x6_1 + 1)), zagbkp, H', ⟨by have := HK1.out; have := HK2.out; omega⟩, ⟨by (with_reducible repeat (first | apply Kd.R_alloc | apply Kd.R_drewN | apply Kd.R_drew)); exact HO_5.out⟩, ⟨by repeat (first | (with_reducible first | exact HB.out | apply below_alloc | apply pw_below_drewN | apply below_drew1) | exact HB.out)⟩⟩
       replace c12 := Bool.eq_false_iff.mpr c12
       subst c12
       replace H : (if 0 ≤ x6_1 then (if x6_1 < (l0.length : Int) then (if x5_1.length < 2932031007402 then (spec_l4Drop.l0 k2 l0 l1 (x5_1 ++ [(⟨(rd_T44 l0 x6_1).f0, (rd_T44 l0 x6_1).f1, (rd_T44 l0 x6_1).f2, (rd_T44 l0 x6_1).f3, (rd_T44 l0 x6_1).f4⟩ : S44)]) (wrap64 (x6_1 + 1))) else (none)) else (none)) else (none)) = some r := by rw [if_neg (show ¬ (false = true) by decide)] at H; exact H
       by_cases c13 : 0 ≤ x6_1
       ·
        rw [if_pos c13] at H
        have c13b0 : decide (0 ≤ x6_1) = true := decide_eq_true c13
        clear c13
        by_cases c14 : x6_1 < (l0.length : Int)
        ·
         rw [if_pos c14] at H
         have c14b0 : decide (x6_1 < (l0.length : Int)) = true := decide_eq_true c14
         clear c14
         by_cases c15 : x5_1.length < 2932031007402
         ·
          rw [if_pos c15] at H
          have LMc15 := aa c15
          clear c15
          obtain ⟨y108, hy108⟩ : ∃ y_ : List (S44), y_ = (x5_1 ++ [(⟨(rd_T44 l0 x6_1).f0, (rd_T44 l0 x6_1).f1, (rd_T44 l0 x6_1).f2, (rd_T44 l0 x6_1).f3, (rd_T44 l0 x6_1).f4⟩ : S44)]) := ⟨_, rfl⟩
          replace H : (spec_l4Drop.l0 k2 l0 l1 y108 (wrap64 (x6_1 + 1))) = some r := by first | (rw [hy108]; with_reducible exact H) | (have H2_ := (Option.bind_some _ _).symm.trans H; rw [hy108]; with_reducible exact H2_) | (have H2_ := (Option.bind_some _ _).symm.trans H; with_reducible exact H2_) | with_reducible exact H | (rw [hy108]; exact H) | exact H
          have Ny108 := aa hy108
          clear hy108
          have H' := aa H
          clear H
          have p107 : 0 ≤ (x6_1 : Int) := of_decide_eq_true zgglam
          have q107 : x6_1 < (l0.length : Int) := of_decide_eq_true zgglam
          obtain ⟨ad107, e107, hx107_0, hx107_1, hx107_2, hx107_3, hx107_4⟩ := at_T44 HR0.out x6_1 p107 q107
          cases e107
          replace hx107_0 := pb HB.out hx107_0
          replace hx107_1 := pb HB.out hx107_1
          replace hx107_2 := pb HB.out hx107_2
          replace hx107_3 := pb HB.out hx107_3
          replace hx107_4 := pb HB.out hx107_4
          replace p107 := eq_true p107
          replace q107 := eq_true q107
          go_wp2_with (first | ((with_reducible refine gate_builtin (b := .append) (xs := #[.tmp 45, .tmp 50]) rfl ?_); at_builtin; refine Kd.R_append k44 (w0 := w) w.heap.size rfl (.tmp 45) (.tmp 50) 25 44 (.agg #[(.string ⟨#[]⟩), (.int .i64 0), (.int .i64 0), (.int .i64 0), (.int .i64 0)]) 48 rfl Tryd.underlying25 info44 rfl (by decide) (by omega) u5 x5_1 (⟨(rd_T44 l0 x6_1).f0, (rd_T44 l0 x6_1).f1, (rd_T44 l0 x6_1).f2, (rd_T44 l0 x6_1).f3, (rd_T44 l0 x6_1).f4⟩ : S44) [.string ((rd_T44 l0 x6_1).f0), .int .i64 ((rd_T44 l0 x6_1).f1), .int .i64 ((rd_T44 l0 x6_1).f2), .int .i64 ((rd_T44 l0 x6_1).f3), .int .i64 ((rd_T44 l0 x6_1).f4)] (fun _ => True) (fun _ => False) rfl rfl ?aP (fun _ hk => hk.elim) ?aF ?aO ?aB ?aS ?aL ?_; (case aP => exact zadlhm); (case aB => exact zjjbob); (case aF => exact (fun _ _ => trivial)); (case aO => exact (zcaken HO_5.out)); (case aS => exact (below_size zjjbob)); (case aL => have := LMc15.out; omega); intro v109 w16 ho hb hg hat; rw [← Ny108.out] at ho; replace HB := aa (hb); have HO110 := aa (ho); clear HO_5; clear ho hb hg hat))
          repeat (go_quiet (first | ((with_reducible refine gate_builtin (b := .append) (xs := #[.tmp 45, .tmp 50]) rfl ?_); at_builtin; refine Kd.R_append k44 (w0 := w) w.heap.size rfl (.tmp 45) (.tmp 50) 25 44 (.agg #[(.string ⟨#[]⟩), (.int .i64 0), (.int .i64 0), (.int .i64 0), (.int .i64 0)]) 48 rfl Tryd.underlying25 info44 rfl (by decide) (by omega) u5 x5_1 (⟨(rd_T44 l0 x6_1).f0, (rd_T44 l0 x6_1).f1, (rd_T44 l0 x6_1).f2, (rd_T44 l0 x6_1).f3, (rd_T44 l0 x6_1).f4⟩ : S44) [.string ((rd_T44 l0 x6_1).f0), .int .i64 ((rd_T44 l0 x6_1).f1), .int .i64 ((rd_T44 l0 x6_1).f2), .int .i64 ((rd_T44 l0 x6_1).f3), .int .i64 ((rd_T44 l0 x6_1).f4)] (fun _ => True) (fun _ => False) rfl rfl ?aP (fun _ hk => hk.elim) ?aF ?aO ?aB ?aS ?aL ?_; (case aP => exact zadlhm); (case aB => exact zjjbob); (case aF => exact (fun _ _ => trivial)); (case aO => exact (zcaken HO_5.out)); (case aS => exact (below_size zjjbob)); (case aL => have := LMc15.out; omega); intro v109 w16 ho hb hg hat; rw [← Ny108.out] at ho; replace HB := aa (hb); have HO110 := aa (ho); clear HO_5; clear ho hb hg hat)); try go_wp2_with (first | ((with_reducible refine gate_builtin (b := .append) (xs := #[.tmp 45, .tmp 50]) rfl ?_); at_builtin; refine Kd.R_append k44 (w0 := w) w.heap.size rfl (.tmp 45) (.tmp 50) 25 44 (.agg #[(.string ⟨#[]⟩), (.int .i64 0), (.int .i64 0), (.int .i64 0), (.int .i64 0)]) 48 rfl Tryd.underlying25 info44 rfl (by decide) (by omega) u5 x5_1 (⟨(rd_T44 l0 x6_1).f0, (rd_T44 l0 x6_1).f1, (rd_T44 l0 x6_1).f2, (rd_T44 l0 x6_1).f3, (rd_T44 l0 x6_1).f4⟩ : S44) [.string ((rd_T44 l0 x6_1).f0), .int .i64 ((rd_T44 l0 x6_1).f1), .int .i64 ((rd_T44 l0 x6_1).f2), .int .i64 ((rd_T44 l0 x6_1).f3), .int .i64 ((rd_T44 l0 x6_1).f4)] (fun _ => True) (fun _ => False) rfl rfl ?aP (fun _ hk => hk.elim) ?aF ?aO ?aB ?aS ?aL ?_; (case aP => exact zadlhm); (case aB => exact zjjbob); (case aF => exact (fun _ _ => trivial)); (case aO => exact (zcaken HO_5.out)); (case aS => exact (below_size zjjbob)); (case aL => have := LMc15.out; omega); intro v109 w16 ho hb hg hat; rw [← Ny108.out] at ho; replace HB := aa (hb); have HO110 := aa (ho); clear HO_5; clear ho hb hg hat)))
          go_roundg k2
          case measure => have := HK1.out; have := HK2.out; omega
          case rel => exact ⟨(y108), (wrap64 (x6_1 + 1)), zagbkp, H', ⟨by have := HK1.out; have := HK2.out; omega⟩, ⟨by (with_reducible repeat (first | apply Kd.R_alloc | apply Kd.R_drewN | apply Kd.R_drew)); exact HO110.out⟩, ⟨by repeat (first | (with_reducible first | exact HB.out | apply below_alloc | apply pw_below_drewN | apply below_drew1) | exact HB.out)⟩⟩
         rw [if_neg c15] at H
         exact absurd H (by simp)
        rw [if_neg c14] at H
        exact absurd H (by simp)
       rw [if_neg c13] at H
       exact absurd H (by simp)
   ·
    rw [if_neg c5] at H
    have c5b0 : decide (x6_1 < (l0.length : Int)) = false := decide_eq_false c5
    clear c5
    obtain rfl := Option.some.inj H
    go_wp2
    repeat (go_quiet (fail); try go_wp2)
    go_ret
    exact ⟨_, by first | rfl | (simp [errW_none, errW_some] <;> rfl) | (simp [*, errW_none, errW_some] <;> rfl), by (with_reducible repeat (first | apply Kd.R_alloc | apply Kd.R_drewN | apply Kd.R_drew)); exact HO_5.out, by repeat (first | (with_reducible first | exact HB.out | apply below_alloc | apply pw_below_drewN | apply below_drew1) | exact HB.out)⟩

end Go.Proofs.YtajlnffefoeppaaDoor.Qa
