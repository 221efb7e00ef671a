-- By gp.py (wip/gen of the work's repo), a program of this workplace over the kit's print: Lean checks it.
import Derived.Test.YthdddcegopgopaaDoorQax0
import Derived.Test.YthdddcegopgopaaDoorQax8
import Derived.Test.YthdddcegopgopaaDoorQax15
import Derived.Test.YthdddcegopgopaaDoorQax16
namespace Go.Proofs.YthdddcegopgopaaDoor.Qa
open Go.RowKit Go.Proofs.YthdddcegopgopaaDoorW.PrintWords Go.Proofs.YthdddcegopgopaaDoorW.PrintLast Go.Proofs.YthdddcegopgopaaDoorW.PrintMore
attribute [local go_sem] max2_int min2_int max_two min_two max_three min_three max_four min_four   -- for this text's walks alone
set_option linter.unusedVariables false
set_option linter.unusedSimpArgs false
set_option maxHeartbeats 8000000
set_option maxRecDepth 100000

/-! ### spec_l2Delete: function 25 -/
def spec_l2Delete.j0 : Nat → List (S47) → ByteArray → Int → Bool → Option (Int × ByteArray × (List (S47)))
 | 0, _, _, _, _ => none
 | k + 1, x0, x1, x7, x28 => if x28 = true then ((spec_l2Bad.f 7).bind fun bt114 => (some (bt114.1, bt114.2.1, bt114.2.2))) else ((spec_l2Kids.f k x0 x1).bind fun t119 => (if (t119.length : Int) > 0 then ((spec_l2Bad.f 8).bind fun bt122 => (some (bt122.1, bt122.2.1, bt122.2.2))) else ((some (([] : List (S47)) : List (S47))).bind fun y127 => (if 0 ≤ x7 then (if x7 ≤ (x0.length : Int) then ((some (x0.take (x7 : Int).toNat : List (S47))).bind fun y130 => (if y127.length + y130.length < 2932031007402 then ((some (y127 ++ y130 : List (S47))).bind fun y134 => (if 0 ≤ (wrap64 (x7 + 1)) then (if (wrap64 (x7 + 1)) ≤ (x0.length : Int) then ((some (x0.drop ((wrap64 (x7 + 1)) : Int).toNat : List (S47))).bind fun y137 => (if y134.length + y137.length < 2932031007402 then (some (0, (⟨#[]⟩ : ByteArray), (y134 ++ y137))) else (none))) else (none)) else (none))) else (none))) else (none)) else (none)))))
def spec_l2Delete.f (k : Nat) (l0 : List (S47)) (a1 : ByteArray) (a2 : Int) : Option (Int × ByteArray × (List (S47))) := if a1.toList = ([47] : List UInt8) then ((spec_l2Bad.f 1).bind fun bt102 => (some (bt102.1, bt102.2.1, bt102.2.2))) else ((spec_l2At.f k l0 a1).bind fun t107 => (if t107 < 0 then ((spec_l2Bad.f 4).bind fun bt108 => (some (bt108.1, bt108.2.1, bt108.2.2))) else (if a2 = (-1) then (spec_l2Delete.j0 k l0 a1 t107 false) else (if 0 ≤ t107 then (if t107 < (l0.length : Int) then (spec_l2Delete.j0 k l0 a1 t107 (a2 != ((rd_T47 l0 t107).f2))) else (none)) else (none)))))
theorem spec_l2Delete.mono_l : ∀ k, (∀ y0 y1 y2 y3, LeO (spec_l2Delete.j0 k y0 y1 y2 y3) (spec_l2Delete.j0 (k + 1) y0 y1 y2 y3))
 | 0 => fun _ _ _ _ r h => by simp [spec_l2Delete.j0] at h
 | k + 1 => by
  have ih0 := spec_l2Delete.mono_l k
  ·
   intro y0 y1 y2 y3
   unfold spec_l2Delete.j0
   repeat' first
   | (with_reducible exact ih0 _ _ _ _)
   | (with_reducible exact spec_l2At.mono _ _ _)
   | (with_reducible exact spec_l2Kids.mono _ _ _)
   | (with_reducible exact LeO.refl _)
   | (with_reducible exact LeO.none _)
   | (with_reducible refine LeO.ite ?_ ?_)
   | (with_reducible refine LeO.bind ?_ (fun _ => ?_))
   | exact ih0 _ _ _ _
   | exact spec_l2At.mono _ _ _
   | exact spec_l2Kids.mono _ _ _
   | exact LeO.none _
   | refine LeO.ite ?_ ?_
   | refine LeO.bind ?_ (fun _ => ?_)
theorem spec_l2Delete.mono : ∀ a0 a1 a2 k, LeO (spec_l2Delete.f k a0 a1 a2) (spec_l2Delete.f (k + 1) a0 a1 a2) := by
 intro a0 a1 a2 k
 have ih0 := spec_l2Delete.mono_l k
 unfold spec_l2Delete.f
 repeat' first
   | (with_reducible exact ih0 _ _ _ _)
   | (with_reducible exact spec_l2At.mono _ _ _)
   | (with_reducible exact spec_l2Kids.mono _ _ _)
   | (with_reducible exact LeO.refl _)
   | (with_reducible exact LeO.none _)
   | (with_reducible refine LeO.ite ?_ ?_)
   | (with_reducible refine LeO.bind ?_ (fun _ => ?_))
   | exact ih0 _ _ _ _
   | exact spec_l2At.mono _ _ _
   | exact spec_l2Kids.mono _ _ _
   | exact LeO.none _
   | refine LeO.ite ?_ ?_
   | refine LeO.bind ?_ (fun _ => ?_)
theorem spec_l2Delete.calls (k : Nat) (A0 : Option Addr) (c0 : Nat) (l0 : List (S47)) (a1 : ByteArray) (a2 : Int) (r1 : Int) (r2 : ByteArray) (r3 : List (S47)) (w : World) (hr0 : Kd.C k47 w A0 l0.length l0) (hc0 : l0.length ≤ c0) (h : spec_l2Delete.f k l0 a1 a2 = some (r1, r2, r3)) :
  Calls Tryd.prog 25 #[.slice A0 l0.length c0, .string a1, .int .i64 a2] w fun e w' => ∃ v2_ : Value, e = .returned (.agg #[.int .i64 r1, .string r2, v2_]) ∧ Kd.R k47 47 w' w.heap.size (fun _ => True) v2_ r3 ∧ Below w.heap.size w w' := by
 have hu26 := Tryd.underlying26
 have HR0 := aa hr0
 have HC0 := aa hc0
 clear hr0 hc0
 have HB := aa (Below.refl w.heap.size w)
 have H : (if a1.toList = ([47] : List UInt8) then ((spec_l2Bad.f 1).bind fun bt102 => (some (bt102.1, bt102.2.1, bt102.2.2))) else ((spec_l2At.f k l0 a1).bind fun t107 => (if t107 < 0 then ((spec_l2Bad.f 4).bind fun bt108 => (some (bt108.1, bt108.2.1, bt108.2.2))) else (if a2 = (-1) then (spec_l2Delete.j0 k l0 a1 t107 false) else (if 0 ≤ t107 then (if t107 < (l0.length : Int) then (spec_l2Delete.j0 k l0 a1 t107 (a2 != ((rd_T47 l0 t107).f2))) else (none)) else (none)))))) = some (r1, r2, r3) := h
 clear h
 by_cases c4 : a1.toList = ([47] : List UInt8)
 ·
  rw [if_pos c4] at H
  have c4b0 : (a1.toList == ([47] : List UInt8)) = true := beq_iff_eq.mpr c4
  have c4b1 : (a1.toList != ([47] : List UInt8)) = false := bne_eq_false_iff_eq.mpr c4
  clear c4
  replace H := Option.bind_eq_some_iff.mp H
  obtain ⟨⟨t102, t103, t104⟩, A50, H⟩ := H
  replace H : (some (t102, t103, t104)) = some (r1, r2, r3) := H
  have A5 := aa A50
  clear A50
  simp only [Option.some.injEq, Prod.mk.injEq] at H
  obtain ⟨rfl, rfl, rfl⟩ := H
  go_enter Tryd.func25, Tryd.ntmps25
  go_wp2_with (first | ((with_reducible refine gate_dst (N := 6) rfl ?_); refine box_event ?hg (N := 6) ?hd (cs := #[.int .i64 0, .string (⟨#[]⟩ : ByteArray), .slice none 0 0]) (t := 26) ?hr ?_; (case hd => rfl); (case hg => rfl); (case hr => exact zhlgcp); intro gb101 hg w6 hbox hb; have n0_ := aa (below_step zjjbob hb); have n1_ := aa (hbox); have n2_ := aa ((zkpfjp : w.heap.size ≤ gb101)); have n3_ := aa ((zkpfjp : w.heap.size ≤ gb101)); clear HB; have HB := n0_; have BK101 := n1_; have GW101 := n2_; have GE101 := n3_; clear n0_ n1_ n2_ n3_; clear hb hbox hg) | ((with_reducible refine gate_callee (f := 24) rfl ?_); refine goesL_ (some 11) rfl rfl Tryd.func24 (by kernel_rfl) rfl #[.int .i64 1] rfl zjnmae ?_; (with_reducible refine (spec_l2Bad.calls 1 t102 t103 t104 _ A5.out).mono ?_); rintro e w7 ⟨v105, rfl, ho0, hb⟩; refine ⟨_, rfl, ?_⟩; have n0_ := aa (Kd.R_lower ho0 (below_size zkmbdh)); have n1_ := aa (blk_below (g := gb101) (o := .cells #[.int .i64 0, .string (⟨#[]⟩ : ByteArray), .slice none 0 0] 26 (0, 0)) (zkjhpm BK101.out) hb); have n2_ := aa (below_step zkmbdh hb); clear BK101; clear HB; have HO106 := n0_; have BK101 := n1_; have HB := n2_; clear n0_ n1_ n2_; (try clear hb); (try clear hb2); (try clear hk); (try clear hi); (try clear ho0); have hcz8_0 : w7.cell? ⟨gb101, 0, none⟩ = some (.int .i64 0) := (blk_cell BK101.out 0).trans rfl; have hcz8_1 : w7.cell? ⟨gb101, 1, none⟩ = some (.string (⟨#[]⟩ : ByteArray)) := (blk_cell BK101.out 1).trans rfl; have hcz8_2 : w7.cell? ⟨gb101, 2, none⟩ = some (.slice none 0 0) := (blk_cell BK101.out 2).trans rfl; have hfz8_0 := blk_frozen BK101.out 0; have hfz8_1 := blk_frozen BK101.out 1; have hfz8_2 := blk_frozen BK101.out 2; obtain ⟨Ao9, co9, eo9⟩ := Kd.R_slice HO106.out; subst eo9))
  refine bodyPost_ret (results_cell_row rfl _ _ gb101 26 #[.int .i64 t102, .string t103, .slice Ao9 t104.length co9] (0, 0) _ rfl (by (with_reducible repeat (first | refine blk_drewN ?_ _ | refine blk_drew ?_ | refine blk_alloc ?_ _)); refine blk_put (cs := #[.int .i64 t102, .string t103, .slice none 0 0]) ?_ 2 _ rfl; (with_reducible repeat (first | refine blk_drewN ?_ _ | refine blk_drew ?_ | refine blk_alloc ?_ _)); refine blk_put (cs := #[.int .i64 t102, .string (⟨#[]⟩ : ByteArray), .slice none 0 0]) ?_ 1 _ rfl; (with_reducible repeat (first | refine blk_drewN ?_ _ | refine blk_drew ?_ | refine blk_alloc ?_ _)); refine blk_put (cs := #[.int .i64 0, .string (⟨#[]⟩ : ByteArray), .slice none 0 0]) ?_ 0 _ rfl; (with_reducible repeat (first | refine blk_drewN ?_ _ | refine blk_drew ?_ | refine blk_alloc ?_ _)); exact BK101.out) Tryd.underlying26 rfl (by kernel_rfl)) rfl ?_
  exact ⟨_, by first | rfl | (simp [errW_none, errW_some] <;> rfl) | (simp [*, errW_none, errW_some] <;> rfl), by (with_reducible repeat (first | apply Kd.R_alloc | apply Kd.R_drewN | apply Kd.R_drew)); exact Kd.R_mono (Kd.R_far (p := ⟨gb101, 2, none⟩) (Kd.R_far (p := ⟨gb101, 1, none⟩) (Kd.R_far (p := ⟨gb101, 0, none⟩) (Kd.R_types HO106.out BK101.out (by decide)) (fun _ hk => hk.2) (.int .i64 t102)) (fun _ hk => hk.2) (.string t103)) (fun _ hk => hk.2) (.slice Ao9 t104.length co9)) (fun _ hk => trivial), by repeat (first | (with_reducible first | exact HB.out | apply below_alloc | apply pw_below_drewN | apply below_drew1 | refine below_set ?_ GE101.out) | exact HB.out)⟩
 ·
  rw [if_neg c4] at H
  have c4b0 : (a1.toList == ([47] : List UInt8)) = false := beq_eq_false_iff_ne.mpr c4
  have c4b1 : (a1.toList != ([47] : List UInt8)) = true := bne_iff_ne.mpr c4
  replace H := Option.bind_eq_some_iff.mp H
  obtain ⟨t107, A100, H⟩ := H
  replace H : (if t107 < 0 then ((spec_l2Bad.f 4).bind fun bt108 => (some (bt108.1, bt108.2.1, bt108.2.2))) else (if a2 = (-1) then (spec_l2Delete.j0 k l0 a1 t107 false) else (if 0 ≤ t107 then (if t107 < (l0.length : Int) then (spec_l2Delete.j0 k l0 a1 t107 (a2 != ((rd_T47 l0 t107).f2))) else (none)) else (none)))) = some (r1, r2, r3) := H
  have A10 := aa A100
  clear A100
  by_cases c11 : t107 < 0
  ·
   rw [if_pos c11] at H
   have c11b0 : decide (t107 < 0) = true := decide_eq_true c11
   clear c11
   replace H := Option.bind_eq_some_iff.mp H
   obtain ⟨⟨t108, t109, t110⟩, A120, H⟩ := H
   replace H : (some (t108, t109, t110)) = some (r1, r2, r3) := H
   have A12 := aa A120
   clear A120
   simp only [Option.some.injEq, Prod.mk.injEq] at H
   obtain ⟨rfl, rfl, rfl⟩ := H
   go_enter Tryd.func25, Tryd.ntmps25
   go_wp2_with (first | ((with_reducible refine gate_dst (N := 6) rfl ?_); refine box_event ?hg (N := 6) ?hd (cs := #[.int .i64 0, .string (⟨#[]⟩ : ByteArray), .slice none 0 0]) (t := 26) ?hr ?_; (case hd => rfl); (case hg => rfl); (case hr => exact zhlgcp); intro gb101 hg w13 hbox hb; have n0_ := aa (below_step zjjbob hb); have n1_ := aa (hbox); have n2_ := aa ((zkpfjp : w.heap.size ≤ gb101)); have n3_ := aa ((zkpfjp : w.heap.size ≤ gb101)); clear HB; have HB := n0_; have BK101 := n1_; have GW101 := n2_; have GE101 := n3_; clear n0_ n1_ n2_ n3_; clear hb hbox hg) | ((with_reducible refine gate_callee (f := 49) rfl ?_); refine goesL_ (some 14) rfl rfl Tryd.func49 (by kernel_rfl) rfl #[.slice A0 l0.length c0, .string a1] rfl zjnmae ?_; (with_reducible refine (spec_l2At.calls k _ _ l0 a1 t107 _ ?side1 ?side2 A10.out).mono ?_); (case side1 => exact zfmbgg); (case side2 => exact HC0.out); rintro e w' ⟨rfl, ⟨nd, rfl⟩⟩; refine ⟨_, rfl, ?_⟩; (try (rw [drewN_self w13]; generalize hq_ : World.drewN w13 _ = w13; have n0_ : Aside0 (w13.heap[gb101]? = some (.cells #[.int .i64 0, .string (⟨#[]⟩ : ByteArray), .slice none 0 0] 26 (0, 0))) := ⟨by rw [← hq_]; exact (zkjhpm BK101.out)⟩; have n1_ : Aside0 (Below w.heap.size w w13) := ⟨by rw [← hq_]; exact zkmbdh⟩; clear BK101 HB hq_; have BK101 := n0_; have HB := n1_; clear n0_ n1_))) | ((with_reducible refine gate_callee (f := 24) rfl ?_); refine goesL_ (some 17) rfl rfl Tryd.func24 (by kernel_rfl) rfl #[.int .i64 4] rfl zjnmae ?_; (with_reducible refine (spec_l2Bad.calls 4 t108 t109 t110 _ A12.out).mono ?_); rintro e w14 ⟨v111, rfl, ho0, hb⟩; refine ⟨_, rfl, ?_⟩; have n0_ := aa (Kd.R_lower ho0 (below_size zkmbdh)); have n1_ := aa (blk_below (g := gb101) (o := .cells #[.int .i64 0, .string (⟨#[]⟩ : ByteArray), .slice none 0 0] 26 (0, 0)) (zkjhpm BK101.out) hb); have n2_ := aa (below_step zkmbdh hb); clear BK101; clear HB; have HO112 := n0_; have BK101 := n1_; have HB := n2_; clear n0_ n1_ n2_; (try clear hb); (try clear hb2); (try clear hk); (try clear hi); (try clear ho0); have hcz15_0 : w14.cell? ⟨gb101, 0, none⟩ = some (.int .i64 0) := (blk_cell BK101.out 0).trans rfl; have hcz15_1 : w14.cell? ⟨gb101, 1, none⟩ = some (.string (⟨#[]⟩ : ByteArray)) := (blk_cell BK101.out 1).trans rfl; have hcz15_2 : w14.cell? ⟨gb101, 2, none⟩ = some (.slice none 0 0) := (blk_cell BK101.out 2).trans rfl; have hfz15_0 := blk_frozen BK101.out 0; have hfz15_1 := blk_frozen BK101.out 1; have hfz15_2 := blk_frozen BK101.out 2; obtain ⟨Ao16, co16, eo16⟩ := Kd.R_slice HO112.out; subst eo16))
   refine bodyPost_ret (results_cell_row rfl _ _ gb101 26 #[.int .i64 t108, .string t109, .slice Ao16 t110.length co16] (0, 0) _ rfl zmdafi Tryd.underlying26 rfl (by kernel_rfl)) rfl ?_
   exact ⟨_, by first | rfl | (simp [errW_none, errW_some] <;> rfl) | (simp [*, errW_none, errW_some] <;> rfl), by (with_reducible repeat (first | apply Kd.R_alloc | apply Kd.R_drewN | apply Kd.R_drew)); exact Kd.R_mono (Kd.R_far (p := ⟨gb101, 2, none⟩) (Kd.R_far (p := ⟨gb101, 1, none⟩) (Kd.R_far (p := ⟨gb101, 0, none⟩) (Kd.R_types HO112.out BK101.out (by decide)) (fun _ hk => hk.2) (.int .i64 t108)) (fun _ hk => hk.2) (.string t109)) (fun _ hk => hk.2) (.slice Ao16 t110.length co16)) (fun _ hk => trivial), by repeat (first | (with_reducible first | exact HB.out | apply below_alloc | apply pw_below_drewN | apply below_drew1 | refine below_set ?_ GE101.out) | exact HB.out)⟩
  ·
   rw [if_neg c11] at H
   have c11b0 : decide (t107 < 0) = false := decide_eq_false c11
   clear c11
   have HC17 := aa H
   clear H
   go_enter Tryd.func25, Tryd.ntmps25
   go_upto_region 6 with (first | ((with_reducible refine gate_dst (N := 6) rfl ?_); refine box_event ?hg (N := 6) ?hd (cs := #[.int .i64 0, .string (⟨#[]⟩ : ByteArray), .slice none 0 0]) (t := 26) ?hr ?_; (case hd => rfl); (case hg => rfl); (case hr => exact zhlgcp); intro gb101 hg w18 hbox hb; have n0_ := aa (below_step zjjbob hb); have n1_ := aa (hbox); have n2_ := aa ((zkpfjp : w.heap.size ≤ gb101)); have n3_ := aa ((zkpfjp : w.heap.size ≤ gb101)); clear HB; have HB := n0_; have BK101 := n1_; have GW101 := n2_; have GE101 := n3_; clear n0_ n1_ n2_ n3_; clear hb hbox hg) | ((with_reducible refine gate_callee (f := 49) rfl ?_); refine goesL_ (some 14) rfl rfl Tryd.func49 (by kernel_rfl) rfl #[.slice A0 l0.length c0, .string a1] rfl zjnmae ?_; (with_reducible refine (spec_l2At.calls k _ _ l0 a1 t107 _ ?side1 ?side2 A10.out).mono ?_); (case side1 => exact zfmbgg); (case side2 => exact HC0.out); rintro e w' ⟨rfl, ⟨nd, rfl⟩⟩; refine ⟨_, rfl, ?_⟩))
   (try simp only [Act.put, List.setIfInBounds_toArray, List.set_cons_zero, List.set_cons_succ])
   go_cut [28] (fun v28 wc => ∃ (kq : Nat) (x28_16 : Bool), v28 = .bool x28_16 ∧ Aside0 (spec_l2Delete.j0 kq l0 a1 t107 x28_16 = some (r1, r2, r3)) ∧ Aside0 (kq ≤ k) ∧ Aside0 (wc.heap[gb101]? = some (.cells #[.int .i64 0, .string (⟨#[]⟩ : ByteArray), (.slice none 0 0)] 26 (0, 0))) ∧ Aside0 (Below w.heap.size w wc))
   case first =>
    have H := HC17.out
    clear HC17
    by_cases c19 : a2 = (-1)
    ·
     rw [if_pos c19] at H
     have c19b0 : (a2 == (-1)) = true := beq_iff_eq.mpr c19
     have c19b1 : (a2 != (-1)) = false := bne_eq_false_iff_eq.mpr c19
     clear c19
     (first | rw [c19b0] | (simp only [i64_w, i32_w]; rw [c19b0]) | (simp only [c19b2, Bool.not_false, Bool.not_true]) | skip)
     have H' := aa H
     clear H
     go_wp2
     go_meet
     case rel => exact ⟨_, (false), zagbkp, H', ⟨by first | omega | exact Nat.le_refl _⟩, ⟨by (with_reducible repeat (first | refine blk_drewN ?_ _ | refine blk_drew ?_ | refine blk_alloc ?_ _)); exact BK101.out⟩, ⟨by repeat (first | (with_reducible first | exact HB.out | apply below_alloc | apply pw_below_drewN | apply below_drew1 | refine below_set ?_ GE101.out) | exact HB.out)⟩⟩
    ·
     rw [if_neg c19] at H
     have c19b0 : (a2 == (-1)) = false := beq_eq_false_iff_ne.mpr c19
     have c19b1 : (a2 != (-1)) = true := bne_iff_ne.mpr c19
     (first | rw [c19b0] | (simp only [i64_w, i32_w]; rw [c19b0]) | (simp only [c19b2, Bool.not_false, Bool.not_true]) | skip)
     by_cases c20 : 0 ≤ t107
     ·
      rw [if_pos c20] at H
      have c20b0 : decide (0 ≤ t107) = true := decide_eq_true c20
      clear c20
      by_cases c21 : t107 < (l0.length : Int)
      ·
       rw [if_pos c21] at H
       have c21b0 : decide (t107 < (l0.length : Int)) = true := decide_eq_true c21
       clear c21
       have H' := aa H
       clear H
       have p113 : 0 ≤ (t107 : Int) := of_decide_eq_true zgglam
       have q113 : t107 < (l0.length : Int) := of_decide_eq_true zgglam
       obtain ⟨ad113, e113, hx113_0, hx113_1, hx113_2, hx113_3, hx113_4⟩ := at_T47 HR0.out t107 p113 q113
       cases e113
       replace hx113_0 := pb HB.out hx113_0
       replace hx113_1 := pb HB.out hx113_1
       replace hx113_2 := pb HB.out hx113_2
       replace hx113_3 := pb HB.out hx113_3
       replace hx113_4 := pb HB.out hx113_4
       replace p113 := eq_true p113
       replace q113 := eq_true q113
       go_wp2
       go_meet
       case rel => exact ⟨_, ((a2 != ((rd_T47 l0 t107).f2))), zagbkp, H', ⟨by first | omega | exact Nat.le_refl _⟩, ⟨by (with_reducible repeat (first | refine blk_drewN ?_ _ | refine blk_drew ?_ | refine blk_alloc ?_ _)); exact BK101.out⟩, ⟨by repeat (first | (with_reducible first | exact HB.out | apply below_alloc | apply pw_below_drewN | apply below_drew1 | refine below_set ?_ GE101.out) | exact HB.out)⟩⟩
      ·
       rw [if_neg c21] at H
       exact absurd H (by simp)
     ·
      rw [if_neg c20] at H
      exact absurd H (by simp)
   case rest =>
    clear HC17
    try clear c1
    try clear p1
    try clear q1
    try clear hx1
    try clear c2
    try clear p2
    try clear c4
    try clear c4b0
    try clear c4b1
    try clear c11
    try clear c11b0
    try clear p11
    try clear q11
    try clear hx11
    try clear c19
    try clear c19b0
    try clear c19b1
    try clear c19b2
    try clear c20
    try clear c20b0
    try clear c21
    try clear c21b0
    try clear hcz15_0
    try clear hcz15_1
    try clear hcz15_2
    try clear hcz8_0
    try clear hcz8_1
    try clear hcz8_2
    try clear hfz15_0
    try clear hfz15_1
    try clear hfz15_2
    try clear hfz8_0
    try clear hfz8_1
    try clear hfz8_2
    try clear hx113_0
    try clear hx113_1
    try clear hx113_2
    try clear hx113_3
    try clear hx113_4
    try clear p113
    try clear q113
    obtain ⟨kq, x28_16, rfl, HA, HJ16, BK101, HB⟩ := hcut
    cases kq with
    | zero => exact absurd HA.out (by simp [spec_l2Delete.j0])
    | succ kj16 =>
     have H := HA.out
     clear HA
     simp only [spec_l2Delete.j0] at H
     by_cases c22 : x28_16 = true
     ·
      subst c22
      have H1 : ((spec_l2Bad.f 7).bind fun bt114 => (some (bt114.1, bt114.2.1, bt114.2.2))) = some (r1, r2, r3) := by rw [if_pos rfl] at H; exact H
      clear H
      have H := H1
      clear H1
      replace H := Option.bind_eq_some_iff.mp H
      obtain ⟨⟨t114, t115, t116⟩, A230, H⟩ := H
      replace H : (some (t114, t115, t116)) = some (r1, r2, r3) := H
      have A23 := aa A230
      clear A230
      simp only [Option.some.injEq, Prod.mk.injEq] at H
      obtain ⟨rfl, rfl, rfl⟩ := H
      go_wp2_with (first | ((with_reducible refine gate_callee (f := 24) rfl ?_); refine goesL_ (some 29) rfl rfl Tryd.func24 (by kernel_rfl) rfl #[.int .i64 7] rfl zjnmae ?_; (with_reducible refine (spec_l2Bad.calls 7 t114 t115 t116 _ A23.out).mono ?_); rintro e w24 ⟨v117, rfl, ho0, hb⟩; refine ⟨_, rfl, ?_⟩; have n0_ := aa (Kd.R_lower ho0 (below_size zkmbdh)); have n1_ := aa (blk_below (g := gb101) (o := .cells #[.int .i64 0, .string (⟨#[]⟩ : ByteArray), .slice none 0 0] 26 (0, 0)) (zkjhpm BK101.out) hb); have n2_ := aa (below_step zkmbdh hb); clear BK101; clear HB; have HO118 := n0_; have BK101 := n1_; have HB := n2_; clear n0_ n1_ n2_; (try clear hb); (try clear hb2); (try clear hk); (try clear hi); (try clear ho0); have hcz25_0 : w24.cell? ⟨gb101, 0, none⟩ = some (.int .i64 0) := (blk_cell BK101.out 0).trans rfl; have hcz25_1 : w24.cell? ⟨gb101, 1, none⟩ = some (.string (⟨#[]⟩ : ByteArray)) := (blk_cell BK101.out 1).trans rfl; have hcz25_2 : w24.cell? ⟨gb101, 2, none⟩ = some (.slice none 0 0) := (blk_cell BK101.out 2).trans rfl; have hfz25_0 := blk_frozen BK101.out 0; have hfz25_1 := blk_frozen BK101.out 1; have hfz25_2 := blk_frozen BK101.out 2; obtain ⟨Ao26, co26, eo26⟩ := Kd.R_slice HO118.out; subst eo26))
      refine bodyPost_ret (results_cell_row rfl _ _ gb101 26 #[.int .i64 t114, .string t115, .slice Ao26 t116.length co26] (0, 0) _ rfl (by (with_reducible repeat (first | refine blk_drewN ?_ _ | refine blk_drew ?_ | refine blk_alloc ?_ _)); refine blk_put (cs := #[.int .i64 t114, .string t115, .slice none 0 0]) ?_ 2 _ rfl; (with_reducible repeat (first | refine blk_drewN ?_ _ | refine blk_drew ?_ | refine blk_alloc ?_ _)); refine blk_put (cs := #[.int .i64 t114, .string (⟨#[]⟩ : ByteArray), .slice none 0 0]) ?_ 1 _ rfl; (with_reducible repeat (first | refine blk_drewN ?_ _ | refine blk_drew ?_ | refine blk_alloc ?_ _)); refine blk_put (cs := #[.int .i64 0, .string (⟨#[]⟩ : ByteArray), .slice none 0 0]) ?_ 0 _ rfl; (with_reducible repeat (first | refine blk_drewN ?_ _ | refine blk_drew ?_ | refine blk_alloc ?_ _)); exact BK101.out) Tryd.underlying26 rfl (by kernel_rfl)) rfl ?_
      exact ⟨_, by first | rfl | (simp [errW_none, errW_some] <;> rfl) | (simp [*, errW_none, errW_some] <;> rfl), by (with_reducible repeat (first | apply Kd.R_alloc | apply Kd.R_drewN | apply Kd.R_drew)); exact Kd.R_mono (Kd.R_far (p := ⟨gb101, 2, none⟩) (Kd.R_far (p := ⟨gb101, 1, none⟩) (Kd.R_far (p := ⟨gb101, 0, none⟩) (Kd.R_types HO118.out BK101.out (by decide)) (fun _ hk => hk.2) (.int .i64 t114)) (fun _ hk => hk.2) (.string t115)) (fun _ hk => hk.2) (.slice Ao26 t116.length co26)) (fun _ hk => trivial), by repeat (first | (with_reducible first | exact HB.out | apply below_alloc | apply pw_below_drewN | apply below_drew1 | refine below_set ?_ GE101.out) | exact HB.out)⟩
     ·
      replace c22 := Bool.eq_false_iff.mpr c22
      subst c22
      have H1 : ((spec_l2Kids.f kj16 l0 a1).bind fun t119 => (if (t119.length : Int) > 0 then ((spec_l2Bad.f 8).bind fun bt122 => (some (bt122.1, bt122.2.1, bt122.2.2))) else ((some (([] : List (S47)) : List (S47))).bind fun y127 => (if 0 ≤ t107 then (if t107 ≤ (l0.length : Int) then ((some (l0.take (t107 : Int).toNat : List (S47))).bind fun y130 => (if y127.length + y130.length < 2932031007402 then ((some (y127 ++ y130 : List (S47))).bind fun y134 => (if 0 ≤ (wrap64 (t107 + 1)) then (if (wrap64 (t107 + 1)) ≤ (l0.length : Int) then ((some (l0.drop ((wrap64 (t107 + 1)) : Int).toNat : List (S47))).bind fun y137 => (if y134.length + y137.length < 2932031007402 then (some (0, (⟨#[]⟩ : ByteArray), (y134 ++ y137))) else (none))) else (none)) else (none))) else (none))) else (none)) else (none))))) = some (r1, r2, r3) := by rw [if_neg (show ¬ (false = true) by decide)] at H; exact H
      clear H
      have H := H1
      clear H1
      replace H := Option.bind_eq_some_iff.mp H
      obtain ⟨t119, A270, H⟩ := H
      replace H : (if (t119.length : Int) > 0 then ((spec_l2Bad.f 8).bind fun bt122 => (some (bt122.1, bt122.2.1, bt122.2.2))) else ((some (([] : List (S47)) : List (S47))).bind fun y127 => (if 0 ≤ t107 then (if t107 ≤ (l0.length : Int) then ((some (l0.take (t107 : Int).toNat : List (S47))).bind fun y130 => (if y127.length + y130.length < 2932031007402 then ((some (y127 ++ y130 : List (S47))).bind fun y134 => (if 0 ≤ (wrap64 (t107 + 1)) then (if (wrap64 (t107 + 1)) ≤ (l0.length : Int) then ((some (l0.drop ((wrap64 (t107 + 1)) : Int).toNat : List (S47))).bind fun y137 => (if y134.length + y137.length < 2932031007402 then (some (0, (⟨#[]⟩ : ByteArray), (y134 ++ y137))) else (none))) else (none)) else (none))) else (none))) else (none)) else (none)))) = some (r1, r2, r3) := H
      have A27 := aa A270
      clear A270
      by_cases c28 : (t119.length : Int) > 0
      ·
       rw [if_pos c28] at H
       have c28b0 : decide (0 < (t119.length : Int)) = true := decide_eq_true c28
       have c28b1 : decide (0 < t119.length) = true := decide_eq_true (by omega)
       clear c28
       replace H := Option.bind_eq_some_iff.mp H
       obtain ⟨⟨t122, t123, t124⟩, A290, H⟩ := H
       replace H : (some (t122, t123, t124)) = some (r1, r2, r3) := H
       have A29 := aa A290
       clear A290
       simp only [Option.some.injEq, Prod.mk.injEq] at H
       obtain ⟨rfl, rfl, rfl⟩ := H
       go_wp2_with (first | ((with_reducible refine gate_callee (f := 50) rfl ?_); refine goesL_ (some 32) rfl rfl Tryd.func50 (by kernel_rfl) rfl #[.slice A0 l0.length c0, .string a1] rfl zjnmae ?_; (with_reducible refine (spec_l2Kids.calls kj16 _ _ l0 a1 t119 _ ?side1 ?side2 A27.out).mono ?_); (case side1 => exact zfmbgg); (case side2 => exact HC0.out); rintro e w30 ⟨v120, rfl, ho0, hb⟩; refine ⟨_, rfl, ?_⟩; have n0_ := aa (Kd.R_lower ho0 (below_size zkmbdh)); have n1_ := aa (blk_below (g := gb101) (o := .cells #[.int .i64 0, .string (⟨#[]⟩ : ByteArray), .slice none 0 0] 26 (0, 0)) (zkjhpm BK101.out) hb); have n2_ := aa (below_step zkmbdh hb); clear BK101; clear HB; have HO121 := n0_; have BK101 := n1_; have HB := n2_; clear n0_ n1_ n2_; (try clear hb); (try clear hb2); (try clear hk); (try clear hi); (try clear ho0); obtain ⟨Ao31, co31, eo31⟩ := Kd.R_slice HO121.out; subst eo31) | ((with_reducible refine gate_callee (f := 24) rfl ?_); refine goesL_ (some 35) rfl rfl Tryd.func24 (by kernel_rfl) rfl #[.int .i64 8] rfl zjnmae ?_; (with_reducible refine (spec_l2Bad.calls 8 t122 t123 t124 _ A29.out).mono ?_); rintro e w32 ⟨v125, rfl, ho0, hb⟩; refine ⟨_, rfl, ?_⟩; have n0_ := aa (Kd.R_below (zcaken HO121.out) hb); have n1_ := aa (Kd.R_lower ho0 (below_size zkmbdh)); have n2_ := aa (blk_below (g := gb101) (o := .cells #[.int .i64 0, .string (⟨#[]⟩ : ByteArray), .slice none 0 0] 26 (0, 0)) (zkjhpm BK101.out) hb); have n3_ := aa (below_step zkmbdh hb); clear HO121; clear BK101; clear HB; have HO121 := n0_; have HO126 := n1_; have BK101 := n2_; have HB := n3_; clear n0_ n1_ n2_ n3_; (try clear hb); (try clear hb2); (try clear hk); (try clear hi); (try clear ho0); have hcz33_0 : w32.cell? ⟨gb101, 0, none⟩ = some (.int .i64 0) := (blk_cell BK101.out 0).trans rfl; have hcz33_1 : w32.cell? ⟨gb101, 1, none⟩ = some (.string (⟨#[]⟩ : ByteArray)) := (blk_cell BK101.out 1).trans rfl; have hcz33_2 : w32.cell? ⟨gb101, 2, none⟩ = some (.slice none 0 0) := (blk_cell BK101.out 2).trans rfl; have hfz33_0 := blk_frozen BK101.out 0; have hfz33_1 := blk_frozen BK101.out 1; have hfz33_2 := blk_frozen BK101.out 2; obtain ⟨Ao34, co34, eo34⟩ := Kd.R_slice HO126.out; subst eo34))
       refine bodyPost_ret (results_cell_row rfl _ _ gb101 26 #[.int .i64 t122, .string t123, .slice Ao34 t124.length co34] (0, 0) _ rfl (by (with_reducible repeat (first | refine blk_drewN ?_ _ | refine blk_drew ?_ | refine blk_alloc ?_ _)); refine blk_put (cs := #[.int .i64 t122, .string t123, .slice none 0 0]) ?_ 2 _ rfl; (with_reducible repeat (first | refine blk_drewN ?_ _ | refine blk_drew ?_ | refine blk_alloc ?_ _)); refine blk_put (cs := #[.int .i64 t122, .string (⟨#[]⟩ : ByteArray), .slice none 0 0]) ?_ 1 _ rfl; (with_reducible repeat (first | refine blk_drewN ?_ _ | refine blk_drew ?_ | refine blk_alloc ?_ _)); refine blk_put (cs := #[.int .i64 0, .string (⟨#[]⟩ : ByteArray), .slice none 0 0]) ?_ 0 _ rfl; (with_reducible repeat (first | refine blk_drewN ?_ _ | refine blk_drew ?_ | refine blk_alloc ?_ _)); exact BK101.out) Tryd.underlying26 rfl (by kernel_rfl)) rfl ?_
       exact ⟨_, by first | rfl | (simp [errW_none, errW_some] <;> rfl) | (simp [*, errW_none, errW_some] <;> rfl), by (with_reducible repeat (first | apply Kd.R_alloc | apply Kd.R_drewN | apply Kd.R_drew)); exact Kd.R_mono (Kd.R_far (p := ⟨gb101, 2, none⟩) (Kd.R_far (p := ⟨gb101, 1, none⟩) (Kd.R_far (p := ⟨gb101, 0, none⟩) (Kd.R_types HO126.out BK101.out (by decide)) (fun _ hk => hk.2) (.int .i64 t122)) (fun _ hk => hk.2) (.string t123)) (fun _ hk => hk.2) (.slice Ao34 t124.length co34)) (fun _ hk => trivial), by repeat (first | (with_reducible first | exact HB.out | apply below_alloc | apply pw_below_drewN | apply below_drew1 | refine below_set ?_ GE101.out) | exact HB.out)⟩
      ·
       rw [if_neg c28] at H
       have c28b0 : decide (0 < (t119.length : Int)) = false := decide_eq_false c28
       have c28b1 : decide (0 < t119.length) = false := decide_eq_false (by omega)
       clear c28
       obtain ⟨y127, hy127⟩ : ∃ y_ : List (S47), y_ = (([] : List (S47))) := ⟨_, rfl⟩
       replace H : (if 0 ≤ t107 then (if t107 ≤ (l0.length : Int) then ((some (l0.take (t107 : Int).toNat : List (S47))).bind fun y130 => (if y127.length + y130.length < 2932031007402 then ((some (y127 ++ y130 : List (S47))).bind fun y134 => (if 0 ≤ (wrap64 (t107 + 1)) then (if (wrap64 (t107 + 1)) ≤ (l0.length : Int) then ((some (l0.drop ((wrap64 (t107 + 1)) : Int).toNat : List (S47))).bind fun y137 => (if y134.length + y137.length < 2932031007402 then (some (0, (⟨#[]⟩ : ByteArray), (y134 ++ y137))) else (none))) else (none)) else (none))) else (none))) else (none)) else (none)) = some (r1, r2, r3) := by first | (rw [hy127]; with_reducible exact H) | (have H2_ := (Option.bind_some _ _).symm.trans H; rw [hy127]; with_reducible exact H2_) | (have H2_ := (Option.bind_some _ _).symm.trans H; with_reducible exact H2_) | with_reducible exact H | (rw [hy127]; exact H) | exact H
       have Ny127 := aa hy127
       clear hy127
       by_cases c35 : 0 ≤ t107
       ·
        rw [if_pos c35] at H
        have c35b0 := eq_true c35
        have c35b1 : decide (0 ≤ t107) = true := decide_eq_true c35
        clear c35
        by_cases c36 : t107 ≤ (l0.length : Int)
        ·
         rw [if_pos c36] at H
         have c36b0 := eq_true c36
         have c36b1 : decide (t107 ≤ (l0.length : Int)) = true := decide_eq_true c36
         clear c36
         obtain ⟨y130, hy130⟩ : ∃ y_ : List (S47), y_ = (l0.take (t107 : Int).toNat) := ⟨_, rfl⟩
         replace H : (if y127.length + y130.length < 2932031007402 then ((some (y127 ++ y130 : List (S47))).bind fun y134 => (if 0 ≤ (wrap64 (t107 + 1)) then (if (wrap64 (t107 + 1)) ≤ (l0.length : Int) then ((some (l0.drop ((wrap64 (t107 + 1)) : Int).toNat : List (S47))).bind fun y137 => (if y134.length + y137.length < 2932031007402 then (some (0, (⟨#[]⟩ : ByteArray), (y134 ++ y137))) else (none))) else (none)) else (none))) else (none)) = some (r1, r2, r3) := by first | (rw [hy130]; with_reducible exact H) | (have H2_ := (Option.bind_some _ _).symm.trans H; rw [hy130]; with_reducible exact H2_) | (have H2_ := (Option.bind_some _ _).symm.trans H; with_reducible exact H2_) | with_reducible exact H | (rw [hy130]; exact H) | exact H
         have Ny130 := aa hy130
         clear hy130
         by_cases c37 : y127.length + y130.length < 2932031007402
         ·
          rw [if_pos c37] at H
          have LMc37 := aa c37
          clear c37
          obtain ⟨y134, hy134⟩ : ∃ y_ : List (S47), y_ = (y127 ++ y130) := ⟨_, rfl⟩
          replace H : (if 0 ≤ (wrap64 (t107 + 1)) then (if (wrap64 (t107 + 1)) ≤ (l0.length : Int) then ((some (l0.drop ((wrap64 (t107 + 1)) : Int).toNat : List (S47))).bind fun y137 => (if y134.length + y137.length < 2932031007402 then (some (0, (⟨#[]⟩ : ByteArray), (y134 ++ y137))) else (none))) else (none)) else (none)) = some (r1, r2, r3) := by first | (rw [hy134]; with_reducible exact H) | (have H2_ := (Option.bind_some _ _).symm.trans H; rw [hy134]; with_reducible exact H2_) | (have H2_ := (Option.bind_some _ _).symm.trans H; with_reducible exact H2_) | with_reducible exact H | (rw [hy134]; exact H) | exact H
          have Ny134 := aa hy134
          clear hy134
          obtain ⟨ji38, hji38⟩ : ∃ j_ : Int, (wrap64 (t107 + 1)) = j_ := ⟨_, rfl⟩
          replace H : (if 0 ≤ (ji38) then (if (ji38) ≤ (l0.length : Int) then ((some (l0.drop ((ji38) : Int).toNat : List (S47))).bind fun y137 => (if y134.length + y137.length < 2932031007402 then (some (0, (⟨#[]⟩ : ByteArray), (y134 ++ y137))) else (none))) else (none)) else (none)) = some (r1, r2, r3) := by first | (rw [hji38] at H; exact H) | (simp only [hji38] at H ⊢; exact H)
          (try rw [hji38] at A27)
          have hji38w : (IntKind.i64.wrap (t107 + 1)) = ji38 := (i64_w _).trans hji38
          by_cases c39 : 0 ≤ (ji38)
          ·
           rw [if_pos c39] at H
           have c39b0 := eq_true c39
           have c39b1 : decide (0 ≤ (ji38)) = true := decide_eq_true c39
           clear c39
           by_cases c40 : (ji38) ≤ (l0.length : Int)
           ·
            rw [if_pos c40] at H
            have c40b0 := eq_true c40
            have c40b1 : decide ((ji38) ≤ (l0.length : Int)) = true := decide_eq_true c40
            clear c40
            obtain ⟨y137, hy137⟩ : ∃ y_ : List (S47), y_ = (l0.drop ((ji38) : Int).toNat) := ⟨_, rfl⟩
            replace H : (if y134.length + y137.length < 2932031007402 then (some (0, (⟨#[]⟩ : ByteArray), (y134 ++ y137))) else (none)) = some (r1, r2, r3) := by first | (rw [hy137]; with_reducible exact H) | (have H2_ := (Option.bind_some _ _).symm.trans H; rw [hy137]; with_reducible exact H2_) | (have H2_ := (Option.bind_some _ _).symm.trans H; with_reducible exact H2_) | with_reducible exact H | (rw [hy137]; exact H) | exact H
            have Ny137 := aa hy137
            clear hy137
            by_cases c41 : y134.length + y137.length < 2932031007402
            ·
             rw [if_pos c41] at H
             have LMc41 := aa c41
             clear c41
             obtain ⟨y141, hy141⟩ : ∃ y_ : List (S47), y_ = (y134 ++ y137) := ⟨_, rfl⟩
             replace H : (some (0, (⟨#[]⟩ : ByteArray), y141)) = some (r1, r2, r3) := by first | (rw [hy141]; with_reducible exact H) | (have H2_ := (Option.bind_some _ _).symm.trans H; rw [hy141]; with_reducible exact H2_) | (have H2_ := (Option.bind_some _ _).symm.trans H; with_reducible exact H2_) | with_reducible exact H | (rw [hy141]; exact H) | exact H
             have Ny141 := aa hy141
             clear hy141
             simp only [Option.some.injEq, Prod.mk.injEq] at H
             obtain ⟨rfl, rfl, rfl⟩ := H
             go_wp2_with (first | ((with_reducible refine gate_callee (f := 50) rfl ?_); refine goesL_ (some 32) rfl rfl Tryd.func50 (by kernel_rfl) rfl #[.slice A0 l0.length c0, .string a1] rfl zjnmae ?_; (with_reducible refine (spec_l2Kids.calls kj16 _ _ l0 a1 t119 _ ?side1 ?side2 A27.out).mono ?_); (case side1 => exact zfmbgg); (case side2 => exact HC0.out); rintro e w42 ⟨v120, rfl, ho0, hb⟩; refine ⟨_, rfl, ?_⟩; have n0_ := aa (Kd.R_lower ho0 (below_size zkmbdh)); have n1_ := aa (blk_below (g := gb101) (o := .cells #[.int .i64 0, .string (⟨#[]⟩ : ByteArray), .slice none 0 0] 26 (0, 0)) (zkjhpm BK101.out) hb); have n2_ := aa (below_step zkmbdh hb); clear BK101; clear HB; have HO121 := n0_; have BK101 := n1_; have HB := n2_; clear n0_ n1_ n2_; (try clear hb); (try clear hb2); (try clear hk); (try clear hi); (try clear ho0); obtain ⟨Ao43, co43, eo43⟩ := Kd.R_slice HO121.out; subst eo43) | ((with_reducible refine gate_dst (N := 36) rfl ?_); refine Kd.R_lit k47 _ 47 ?hg (N := 36) ?hd (xs := ([] : List (S47))) (inner := []) (ok := fun _ => True) (okp := fun _ => True) ?hr ?hp (fun _ hk => hk) trivial (Below.refl _ _) (Nat.le_refl _) (by simp) ?_; (case hd => rfl); (case hg => rfl); (case hr => exact zhlgcp); (case hp => exact (Reps.none _ _)); intro v128 w44 ho45 hb hg_ hnew_; clear hg_ hnew_; (first | rw [← Ny127.out] at ho45 | (simp only [Int.reduceToNat] at ho45; rw [← Ny127.out] at ho45)); have n0_ := aa (Kd.R_below (zcaken HO121.out) hb); have n1_ := aa (Kd.R_lower ho45 (below_size zkmbdh)); have n2_ := aa (blk_below (g := gb101) (o := .cells #[.int .i64 0, .string (⟨#[]⟩ : ByteArray), .slice none 0 0] 26 (0, 0)) (zkjhpm BK101.out) hb); have n3_ := aa (below_step zkmbdh hb); clear HO121; clear BK101; clear HB; have HO121 := n0_; have HO129 := n1_; have BK101 := n2_; have HB := n3_; clear n0_ n1_ n2_ n3_; clear hb ho45; have q46 : (t107 : Int) ≤ ((l0.length : Int) : Int) := of_decide_eq_true zgglam; obtain ⟨i046, hi046, _, hsz46, _⟩ := info_parts info47; have hroom46 : l0.length ≤ c0 := HC0.out; have hC46 : Kd.C k47 _ A0 l0.length l0 := HR0.out; have hcut46 := cut_to (P := Tryd.prog) 24 47 .i64 Tryd.underlying24 hi046 A0 l0.length c0 t107 (of_decide_eq_true zgglam) q46 hroom46; have hr46 := Kd.C_take (m := (t107 : Int).toNat) hC46 (by omega); have hy46 : y130.length = (t107 : Int).toNat := (by rw [Ny130.out, List.length_take]; omega); rw [← Ny130.out] at hr46; rw [← hy46] at hcut46; have HR133 := aa hr46; have HC133 := aa (show y130.length ≤ c0 from by omega); clear hr46 hC46 hroom46 hi046 hsz46; have KY46 := aa hy46; clear hy46; replace q46 := eq_true q46) | ((with_reducible refine gate_builtin (b := .append) (xs := #[.tmp 36, .tmp 39]) rfl ?_); at_builtin; refine Kd.R_append_rows k47 (w0 := w) w.heap.size rfl (.tmp 36) (.tmp 39) 24 47 (.agg #[(.string ⟨#[]⟩), (.int .i64 0), (.int .i64 0), (.int .i64 0), (.int .i64 0)]) 48 rfl Tryd.underlying24 info47 rfl (by decide) (by omega) v128 y127 y130 _ _ _ (fun _ => True) (fun _ => False) rfl rfl ?aO ?aR (fun _ _ h => h) (fun _ h => h.elim) ?aF ?aB ?aS ?aL ?_; (case aR => repeat (first | exact (Kd.C_below HR133.out HB.out) | (with_reducible refine Kd.C_alloc ?_ _) | (with_reducible refine Kd.C_drewN ?_ _) | (with_reducible refine Kd.C_drew ?_))); (case aB => exact zkmbdh); (case aF => exact (fun _ _ => trivial)); (case aO => exact (zcaken HO129.out)); (case aS => exact (below_size zkmbdh)); (case aL => have := LMc37.out; omega); intro v135 w47 ho hb hg hat; rw [← Ny134.out] at ho; have n0_ := aa (blk_grown (g := gb101) (o := .cells #[.int .i64 0, .string (⟨#[]⟩ : ByteArray), .slice none 0 0] 26 (0, 0)) (zkjhpm BK101.out) hg (Kd.R_ne HO129.out BK101.out (by decide))); have n1_ := aa (Kd.R_over' (zcaken HO121.out) (Kd.R_typed (zcaken HO129.out)) (by decide) hg); have n2_ := aa (hb); have n3_ := aa (ho); clear BK101; clear HO121; clear HB; clear HO129; have BK101 := n0_; have HO121 := n1_; have HB := n2_; have HO136 := n3_; clear n0_ n1_ n2_ n3_; clear ho hb hg hat; have q48 : ((ji38) : Int) ≤ ((l0.length : Int) : Int) := of_decide_eq_true zgglam; obtain ⟨i048, hi048, _, hsz48, _⟩ := info_parts info47; have hroom48 : l0.length ≤ c0 := HC0.out; have hC48 : Kd.C k47 _ A0 l0.length l0 := HR0.out; have q048 : (0 : Int) ≤ ((ji38) : Int) := of_decide_eq_true zgglam; have hcut48 := cut_from (P := Tryd.prog) 24 47 .i64 Tryd.underlying24 hi048 5 hsz48 A0 l0.length c0 (ji38) q048 q48; have hr48 := Kd.C_drop (m := ((ji38) : Int).toNat) (c := c0) hC48 (by omega) hroom48; obtain ⟨A48, hA48⟩ : ∃ A1, A1 = (if c0 = ((ji38) : Int).toNat then A0 else (A0 : Option Addr).map (·.add (((ji38) : Int).toNat * 5))) := ⟨_, rfl⟩; obtain ⟨c48, hc48⟩ : ∃ c1, c1 = c0 - ((ji38) : Int).toNat := ⟨_, rfl⟩; have hy48 : y137.length = l0.length - ((ji38) : Int).toNat := (by rw [Ny137.out, List.length_drop] <;> omega); rw [show (l0).drop ((ji38) : Int).toNat = y137 from Ny137.out.symm] at hr48; replace hr48 : Kd.C k47 _ A48 y137.length y137 := (by rw [hA48]; exact hr48); rw [← hy48, ← hA48, ← hc48] at hcut48; have HR140 := aa hr48; have HC140 := aa (show y137.length ≤ c48 from by rw [hy48, hc48]; exact Nat.sub_le_sub_right hroom48 _); clear hr48 hC48 hroom48 hi048 hsz48 hc48; have KY48 := aa hy48; have KA48 := aa hA48; clear hy48 hA48; replace q48 := eq_true q48) | ((with_reducible refine gate_builtin (b := .append) (xs := #[.tmp 41, .tmp 45]) rfl ?_); at_builtin; refine Kd.R_append_rows k47 (w0 := w) w.heap.size rfl (.tmp 41) (.tmp 45) 24 47 (.agg #[(.string ⟨#[]⟩), (.int .i64 0), (.int .i64 0), (.int .i64 0), (.int .i64 0)]) 48 rfl Tryd.underlying24 info47 rfl (by decide) (by omega) v135 y134 y137 _ _ _ (fun _ => True) (fun _ => False) rfl rfl ?aO ?aR (fun _ _ h => h) (fun _ h => h.elim) ?aF ?aB ?aS ?aL ?_; (case aR => repeat (first | exact (Kd.C_below HR140.out HB.out) | (with_reducible refine Kd.C_alloc ?_ _) | (with_reducible refine Kd.C_drewN ?_ _) | (with_reducible refine Kd.C_drew ?_))); (case aB => exact zkmbdh); (case aF => exact (fun _ _ => trivial)); (case aO => exact (zcaken HO136.out)); (case aS => exact (below_size zkmbdh)); (case aL => have := LMc41.out; omega); intro v142 w49 ho hb hg hat; rw [← Ny141.out] at ho; have n0_ := aa (blk_grown (g := gb101) (o := .cells #[.int .i64 0, .string (⟨#[]⟩ : ByteArray), .slice none 0 0] 26 (0, 0)) (zkjhpm BK101.out) hg (Kd.R_ne HO136.out BK101.out (by decide))); have n1_ := aa (Kd.R_over' (zcaken HO121.out) (Kd.R_typed (zcaken HO136.out)) (by decide) hg); have n2_ := aa (hb); have n3_ := aa (ho); clear BK101; clear HO121; clear HB; clear HO136; have BK101 := n0_; have HO121 := n1_; have HB := n2_; have HO143 := n3_; clear n0_ n1_ n2_ n3_; clear ho hb hg hat; obtain ⟨Ao50, co50, eo50⟩ := Kd.R_slice HO143.out; subst eo50; have hcz51_0 : w49.cell? ⟨gb101, 0, none⟩ = some (.int .i64 0) := (blk_cell BK101.out 0).trans rfl; have hcz51_1 : w49.cell? ⟨gb101, 1, none⟩ = some (.string (⟨#[]⟩ : ByteArray)) := (blk_cell BK101.out 1).trans rfl; have hcz51_2 : w49.cell? ⟨gb101, 2, none⟩ = some (.slice none 0 0) := (blk_cell BK101.out 2).trans rfl; have hfz51_0 := blk_frozen BK101.out 0; have hfz51_1 := blk_frozen BK101.out 1; have hfz51_2 := blk_frozen BK101.out 2))
             refine bodyPost_ret (results_cell_row rfl _ _ gb101 26 #[.int .i64 0, .string (⟨#[]⟩ : ByteArray), .slice Ao50 y141.length co50] (0, 0) _ rfl zkhiid Tryd.underlying26 rfl (by kernel_rfl)) rfl ?_
             exact ⟨_, by first | rfl | (simp [errW_none, errW_some] <;> rfl) | (simp only [← hji38]; first | rfl | (simp [errW_none, errW_some] <;> rfl)) | (simp [*, errW_none, errW_some] <;> rfl), by (with_reducible repeat (first | apply Kd.R_alloc | apply Kd.R_drewN | apply Kd.R_drew)); exact Kd.R_mono (Kd.R_far (p := ⟨gb101, 2, none⟩) (Kd.R_far (p := ⟨gb101, 1, none⟩) (Kd.R_far (p := ⟨gb101, 0, none⟩) (Kd.R_types HO143.out BK101.out (by decide)) (fun _ hk => hk.2) (.int .i64 0)) (fun _ hk => hk.2) (.string (⟨#[]⟩ : ByteArray))) (fun _ hk => hk.2) (.slice Ao50 y141.length co50)) (fun _ hk => trivial), by repeat (first | (with_reducible first | exact HB.out | apply below_alloc | apply pw_below_drewN | apply below_drew1 | refine below_set ?_ GE101.out) | exact HB.out)⟩
            ·
             rw [if_neg c41] at H
             exact absurd H (by simp)
           ·
            rw [if_neg c40] at H
            exact absurd H (by simp)
          ·
           rw [if_neg c39] at H
           exact absurd H (by simp)
         ·
          rw [if_neg c37] at H
          exact absurd H (by simp)
        ·
         rw [if_neg c36] at H
         exact absurd H (by simp)
       ·
        rw [if_neg c35] at H
        exact absurd H (by simp)

end Go.Proofs.YthdddcegopgopaaDoor.Qa
