-- By gp.py (wip/gen of the work's repo), a program of this workplace over the kit's print: Lean checks it.
import Derived.Test.YtdemicncljgccaaDoorQax0
import Derived.Test.YtdemicncljgccaaDoorQax3
import Derived.Test.YtdemicncljgccaaDoorQax9
import Derived.Test.YtdemicncljgccaaDoorQax39
import Derived.Test.YtdemicncljgccaaDoorQax61
namespace Go.Proofs.YtdemicncljgccaaDoor.Qa
open Go.RowKit Go.Proofs.YtdemicncljgccaaDoorW.PrintWords Go.Proofs.YtdemicncljgccaaDoorW.PrintLast Go.Proofs.YtdemicncljgccaaDoorW.PrintMore
attribute [local go_sem] max2_int min2_int max_two min_two max_three min_three max_four min_four   -- for this text's walks alone
set_option linter.unusedVariables false
set_option linter.unusedSimpArgs false
set_option maxHeartbeats 8000000
set_option maxRecDepth 100000

/-! ### spec_l2Set: function 43 -/
def spec_l2Set.j0 : Nat → List (S47) → Int → Int → Bool → Option (Int × ByteArray × (List (S47)))
 | 0, _, _, _, _ => none
 | k + 1, x0, x2, x9, x31 => if x31 = true then ((spec_l2Bad.f 7).bind fun bt115 => (some (bt115.1, bt115.2.1, bt115.2.2))) else (if 0 ≤ x9 then (if x9 < (x0.length : Int) then (if ((rd_T47 x0 x9).f2) ≥ 999 then ((spec_l2Bad.f 2).bind fun bt121 => (some (bt121.1, bt121.2.1, bt121.2.2))) else ((spec_l2Copy.f x0).bind fun t126 => (if x9 < (t126.length : Int) then ((some (t126.set (x9 : Int).toNat (⟨(rd_T47 t126 x9).f0, x2, (rd_T47 t126 x9).f2, (rd_T47 t126 x9).f3, (rd_T47 t126 x9).f4⟩ : S47) : List (S47))).bind fun y129 => (some (0, (⟨#[]⟩ : ByteArray), (y129.set (x9 : Int).toNat (⟨(rd_T47 y129 x9).f0, (rd_T47 y129 x9).f1, wrap64 (((rd_T47 y129 x9).f2) + 1), (rd_T47 y129 x9).f3, (rd_T47 y129 x9).f4⟩ : S47))))) else (none)))) else (none)) else (none))
def spec_l2Set.f (k : Nat) (l0 : List (S47)) (a1 : ByteArray) (a2 : Int) (a3 : Int) : Option (Int × ByteArray × (List (S47))) := (spec_l2Data.f a2).bind fun t102 => (if t102 = true then ((spec_l2At.f k l0 a1).bind fun t108 => (if t108 < 0 then ((spec_l2Bad.f 4).bind fun bt109 => (some (bt109.1, bt109.2.1, bt109.2.2))) else (if a3 = (-1) then (spec_l2Set.j0 k l0 a2 t108 false) else (if 0 ≤ t108 then (if t108 < (l0.length : Int) then (spec_l2Set.j0 k l0 a2 t108 (a3 != ((rd_T47 l0 t108).f2))) else (none)) else (none))))) else ((spec_l2Bad.f 3).bind fun bt103 => (some (bt103.1, bt103.2.1, bt103.2.2))))
theorem spec_l2Set.mono_l : ∀ k, (∀ y0 y1 y2 y3, LeO (spec_l2Set.j0 k y0 y1 y2 y3) (spec_l2Set.j0 (k + 1) y0 y1 y2 y3))
 | 0 => fun _ _ _ _ r h => by simp [spec_l2Set.j0] at h
 | k + 1 => by
  have ih0 := spec_l2Set.mono_l k
  ·
   intro y0 y1 y2 y3
   unfold spec_l2Set.j0
   repeat' first
   | (with_reducible exact ih0 _ _ _ _)
   | (with_reducible exact spec_l2At.mono _ _ _)
   | (with_reducible exact LeO.refl _)
   | (with_reducible exact LeO.none _)
   | (with_reducible refine LeO.ite ?_ ?_)
   | (with_reducible refine LeO.bind ?_ (fun _ => ?_))
   | exact ih0 _ _ _ _
   | exact spec_l2At.mono _ _ _
   | exact LeO.none _
   | refine LeO.ite ?_ ?_
   | refine LeO.bind ?_ (fun _ => ?_)
theorem spec_l2Set.mono : ∀ a0 a1 a2 a3 k, LeO (spec_l2Set.f k a0 a1 a2 a3) (spec_l2Set.f (k + 1) a0 a1 a2 a3) := by
 intro a0 a1 a2 a3 k
 have ih0 := spec_l2Set.mono_l k
 unfold spec_l2Set.f
 repeat' first
   | (with_reducible exact ih0 _ _ _ _)
   | (with_reducible exact spec_l2At.mono _ _ _)
   | (with_reducible exact LeO.refl _)
   | (with_reducible exact LeO.none _)
   | (with_reducible refine LeO.ite ?_ ?_)
   | (with_reducible refine LeO.bind ?_ (fun _ => ?_))
   | exact ih0 _ _ _ _
   | exact spec_l2At.mono _ _ _
   | exact LeO.none _
   | refine LeO.ite ?_ ?_
   | refine LeO.bind ?_ (fun _ => ?_)
theorem spec_l2Set.calls (k : Nat) (A0 : Option Addr) (c0 : Nat) (l0 : List (S47)) (a1 : ByteArray) (a2 : Int) (a3 : Int) (r1 : Int) (r2 : ByteArray) (r3 : List (S47)) (w : World) (hr0 : Kd.C k47 w A0 l0.length l0) (hc0 : l0.length ≤ c0) (h : spec_l2Set.f k l0 a1 a2 a3 = some (r1, r2, r3)) :
  Calls Tryd.prog 43 #[.slice A0 l0.length c0, .string a1, .int .i64 a2, .int .i64 a3] w fun e w' => ∃ v2_ : Value, e = .returned (.agg #[.int .i64 r1, .string r2, v2_]) ∧ Kd.R k47 47 w' w.heap.size (fun _ => True) v2_ r3 ∧ Below w.heap.size w w' := by
 have hu30 := Tryd.underlying30
 have HR0 := aa hr0
 have HC0 := aa hc0
 clear hr0 hc0
 have HB := aa (Below.refl w.heap.size w)
 have H : ((spec_l2Data.f a2).bind fun t102 => (if t102 = true then ((spec_l2At.f k l0 a1).bind fun t108 => (if t108 < 0 then ((spec_l2Bad.f 4).bind fun bt109 => (some (bt109.1, bt109.2.1, bt109.2.2))) else (if a3 = (-1) then (spec_l2Set.j0 k l0 a2 t108 false) else (if 0 ≤ t108 then (if t108 < (l0.length : Int) then (spec_l2Set.j0 k l0 a2 t108 (a3 != ((rd_T47 l0 t108).f2))) else (none)) else (none))))) else ((spec_l2Bad.f 3).bind fun bt103 => (some (bt103.1, bt103.2.1, bt103.2.2))))) = some (r1, r2, r3) := h
 clear h
 replace H := Option.bind_eq_some_iff.mp H
 obtain ⟨t102, A50, H⟩ := H
 replace H : (if t102 = true then ((spec_l2At.f k l0 a1).bind fun t108 => (if t108 < 0 then ((spec_l2Bad.f 4).bind fun bt109 => (some (bt109.1, bt109.2.1, bt109.2.2))) else (if a3 = (-1) then (spec_l2Set.j0 k l0 a2 t108 false) else (if 0 ≤ t108 then (if t108 < (l0.length : Int) then (spec_l2Set.j0 k l0 a2 t108 (a3 != ((rd_T47 l0 t108).f2))) else (none)) else (none))))) else ((spec_l2Bad.f 3).bind fun bt103 => (some (bt103.1, bt103.2.1, bt103.2.2)))) = some (r1, r2, r3) := H
 have A5 := aa A50
 clear A50
 by_cases c6 : t102 = true
 ·
  subst c6
  have H1 : ((spec_l2At.f k l0 a1).bind fun t108 => (if t108 < 0 then ((spec_l2Bad.f 4).bind fun bt109 => (some (bt109.1, bt109.2.1, bt109.2.2))) else (if a3 = (-1) then (spec_l2Set.j0 k l0 a2 t108 false) else (if 0 ≤ t108 then (if t108 < (l0.length : Int) then (spec_l2Set.j0 k l0 a2 t108 (a3 != ((rd_T47 l0 t108).f2))) else (none)) else (none))))) = some (r1, r2, r3) := by rw [if_pos rfl] at H; exact H
  clear H
  have H := H1
  clear H1
  replace H := Option.bind_eq_some_iff.mp H
  obtain ⟨t108, A70, H⟩ := H
  replace H : (if t108 < 0 then ((spec_l2Bad.f 4).bind fun bt109 => (some (bt109.1, bt109.2.1, bt109.2.2))) else (if a3 = (-1) then (spec_l2Set.j0 k l0 a2 t108 false) else (if 0 ≤ t108 then (if t108 < (l0.length : Int) then (spec_l2Set.j0 k l0 a2 t108 (a3 != ((rd_T47 l0 t108).f2))) else (none)) else (none)))) = some (r1, r2, r3) := H
  have A7 := aa A70
  clear A70
  by_cases c8 : t108 < 0
  ·
   rw [if_pos c8] at H
   have c8b0 : decide (t108 < 0) = true := decide_eq_true c8
   clear c8
   replace H := Option.bind_eq_some_iff.mp H
   obtain ⟨⟨t109, t110, t111⟩, A90, H⟩ := H
   replace H : (some (t109, t110, t111)) = some (r1, r2, r3) := H
   have A9 := aa A90
   clear A90
   simp only [Option.some.injEq, Prod.mk.injEq] at H
   obtain ⟨rfl, rfl, rfl⟩ := H
   go_enter Tryd.func43, Tryd.ntmps43
   go_wp2_with (first | ((with_reducible refine gate_dst (N := 8) rfl ?_); refine box_event ?hg (N := 8) ?hd (cs := #[.int .i64 0, .string (⟨#[]⟩ : ByteArray), .slice none 0 0]) (t := 30) ?hr ?_; (case hd => rfl); (case hg => rfl); (case hr => exact zhlgcp); intro gb101 hg w10 hbox hb; have n0_ := aa (below_step zjjbob hb); have n1_ := aa (hbox); have n2_ := aa ((zkpfjp : w.heap.size ≤ gb101)); have n3_ := aa ((zkpfjp : w.heap.size ≤ gb101)); clear HB; have HB := n0_; have BK101 := n1_; have GW101 := n2_; have GE101 := n3_; clear n0_ n1_ n2_ n3_; clear hb hbox hg) | ((with_reducible refine gate_callee (f := 48) rfl ?_); refine goesL_ (some 12) rfl rfl Tryd.func48 (by kernel_rfl) rfl #[.int .i64 a2] rfl zjnmae ?_; (with_reducible refine (spec_l2Data.calls a2 true _ A5.out).mono ?_); rintro e w' ⟨rfl, ⟨nd, rfl⟩⟩; refine ⟨_, rfl, ?_⟩; (try (rw [drewN_self w10]; generalize hq_ : World.drewN w10 _ = w10; have n0_ : Aside0 (w10.heap[gb101]? = some (.cells #[.int .i64 0, .string (⟨#[]⟩ : ByteArray), .slice none 0 0] 30 (0, 0))) := ⟨by rw [← hq_]; exact (zkjhpm BK101.out)⟩; have n1_ : Aside0 (Below w.heap.size w w10) := ⟨by rw [← hq_]; exact zkmbdh⟩; clear BK101 HB hq_; have BK101 := n0_; have HB := n1_; clear n0_ n1_))) | ((with_reducible refine gate_callee (f := 34) rfl ?_); refine goesL_ (some 17) rfl rfl Tryd.func34 (by kernel_rfl) rfl #[.slice A0 l0.length c0, .string a1] rfl zjnmae ?_; (with_reducible refine (spec_l2At.calls k _ _ l0 a1 t108 _ ?side1 ?side2 A7.out).mono ?_); (case side1 => exact zfmbgg); (case side2 => exact HC0.out); rintro e w' ⟨rfl, ⟨nd, rfl⟩⟩; refine ⟨_, rfl, ?_⟩; (try (rw [drewN_self w10]; generalize hq_ : World.drewN w10 _ = w10; have n0_ : Aside0 (w10.heap[gb101]? = some (.cells #[.int .i64 0, .string (⟨#[]⟩ : ByteArray), .slice none 0 0] 30 (0, 0))) := ⟨by rw [← hq_]; exact (zkjhpm BK101.out)⟩; have n1_ : Aside0 (Below w.heap.size w w10) := ⟨by rw [← hq_]; exact zkmbdh⟩; clear BK101 HB hq_; have BK101 := n0_; have HB := n1_; clear n0_ n1_))) | ((with_reducible refine gate_callee (f := 33) rfl ?_); refine goesL_ (some 20) rfl rfl Tryd.func33 (by kernel_rfl) rfl #[.int .i64 4] rfl zjnmae ?_; (with_reducible refine (spec_l2Bad.calls 4 t109 t110 t111 _ A9.out).mono ?_); rintro e w11 ⟨v112, rfl, ho0, hb⟩; refine ⟨_, rfl, ?_⟩; have n0_ := aa (Kd.R_lower ho0 (below_size zkmbdh)); have n1_ := aa (blk_below (g := gb101) (o := .cells #[.int .i64 0, .string (⟨#[]⟩ : ByteArray), .slice none 0 0] 30 (0, 0)) (zkjhpm BK101.out) hb); have n2_ := aa (below_step zkmbdh hb); clear BK101; clear HB; have HO113 := n0_; have BK101 := n1_; have HB := n2_; clear n0_ n1_ n2_; (try clear hb); (try clear hb2); (try clear hk); (try clear hi); (try clear ho0); have hcz12_0 : w11.cell? ⟨gb101, 0, none⟩ = some (.int .i64 0) := (blk_cell BK101.out 0).trans rfl; have hcz12_1 : w11.cell? ⟨gb101, 1, none⟩ = some (.string (⟨#[]⟩ : ByteArray)) := (blk_cell BK101.out 1).trans rfl; have hcz12_2 : w11.cell? ⟨gb101, 2, none⟩ = some (.slice none 0 0) := (blk_cell BK101.out 2).trans rfl; have hfz12_0 := blk_frozen BK101.out 0; have hfz12_1 := blk_frozen BK101.out 1; have hfz12_2 := blk_frozen BK101.out 2; obtain ⟨Ao13, co13, eo13⟩ := Kd.R_slice HO113.out; subst eo13))
   refine bodyPost_ret (results_cell_row rfl _ _ gb101 30 #[.int .i64 t109, .string t110, .slice Ao13 t111.length co13] (0, 0) _ rfl zblijj Tryd.underlying30 rfl (by kernel_rfl)) rfl ?_
   exact ⟨_, by first | rfl | (simp [errW_none, errW_some] <;> rfl) | (simp [*, errW_none, errW_some] <;> rfl), by (with_reducible repeat (first | apply Kd.R_alloc | apply Kd.R_drewN | apply Kd.R_drew)); exact Kd.R_mono (Kd.R_far (p := ⟨gb101, 2, none⟩) (Kd.R_far (p := ⟨gb101, 1, none⟩) (Kd.R_far (p := ⟨gb101, 0, none⟩) (Kd.R_types HO113.out BK101.out (by decide)) (fun _ hk => hk.2) (.int .i64 t109)) (fun _ hk => hk.2) (.string t110)) (fun _ hk => hk.2) (.slice Ao13 t111.length co13)) (fun _ hk => trivial), by repeat (first | (with_reducible first | exact HB.out | apply below_alloc | apply pw_below_drewN | apply below_drew1 | refine below_set ?_ GE101.out) | exact HB.out)⟩
  ·
   rw [if_neg c8] at H
   have c8b0 : decide (t108 < 0) = false := decide_eq_false c8
   clear c8
   have HC14 := aa H
   clear H
   go_enter Tryd.func43, Tryd.ntmps43
   go_upto_region 6 with (first | ((with_reducible refine gate_dst (N := 8) rfl ?_); refine box_event ?hg (N := 8) ?hd (cs := #[.int .i64 0, .string (⟨#[]⟩ : ByteArray), .slice none 0 0]) (t := 30) ?hr ?_; (case hd => rfl); (case hg => rfl); (case hr => exact zhlgcp); intro gb101 hg w15 hbox hb; have n0_ := aa (below_step zjjbob hb); have n1_ := aa (hbox); have n2_ := aa ((zkpfjp : w.heap.size ≤ gb101)); have n3_ := aa ((zkpfjp : w.heap.size ≤ gb101)); clear HB; have HB := n0_; have BK101 := n1_; have GW101 := n2_; have GE101 := n3_; clear n0_ n1_ n2_ n3_; clear hb hbox hg) | ((with_reducible refine gate_callee (f := 48) rfl ?_); refine goesL_ (some 12) rfl rfl Tryd.func48 (by kernel_rfl) rfl #[.int .i64 a2] rfl zjnmae ?_; (with_reducible refine (spec_l2Data.calls a2 true _ A5.out).mono ?_); rintro e w' ⟨rfl, ⟨nd, rfl⟩⟩; refine ⟨_, rfl, ?_⟩) | ((with_reducible refine gate_callee (f := 34) rfl ?_); refine goesL_ (some 17) rfl rfl Tryd.func34 (by kernel_rfl) rfl #[.slice A0 l0.length c0, .string a1] rfl zjnmae ?_; (with_reducible refine (spec_l2At.calls k _ _ l0 a1 t108 _ ?side1 ?side2 A7.out).mono ?_); (case side1 => repeat (first | exact (Kd.C_below HR0.out zkmbdh) | (with_reducible refine Kd.C_alloc ?_ _) | (with_reducible refine Kd.C_drewN ?_ _) | (with_reducible refine Kd.C_drew ?_))); (case side2 => exact HC0.out); rintro e w' ⟨rfl, ⟨nd, rfl⟩⟩; refine ⟨_, rfl, ?_⟩))
   (try simp only [Act.put, List.setIfInBounds_toArray, List.set_cons_zero, List.set_cons_succ])
   go_cut [31] (fun v31 wc => ∃ (kq : Nat) (x31_13 : Bool), v31 = .bool x31_13 ∧ Aside0 (spec_l2Set.j0 kq l0 a2 t108 x31_13 = some (r1, r2, r3)) ∧ Aside0 (kq ≤ k) ∧ Aside0 (wc.heap[gb101]? = some (.cells #[.int .i64 0, .string (⟨#[]⟩ : ByteArray), (.slice none 0 0)] 30 (0, 0))) ∧ Aside0 (Below w.heap.size w wc))
   case first =>
    have H := HC14.out
    clear HC14
    by_cases c16 : a3 = (-1)
    ·
     rw [if_pos c16] at H
     have c16b0 : (a3 == (-1)) = true := beq_iff_eq.mpr c16
     have c16b1 : (a3 != (-1)) = false := bne_eq_false_iff_eq.mpr c16
     clear c16
     (first | rw [c16b0] | (simp only [i64_w, i32_w]; rw [c16b0]) | (simp only [c16b2, Bool.not_false, Bool.not_true]) | skip)
     have H' := aa H
     clear H
     go_wp2
     go_meet
     case rel => exact ⟨_, (false), zagbkp, H', ⟨by first | omega | exact Nat.le_refl _⟩, ⟨by (with_reducible repeat (first | refine blk_drewN ?_ _ | refine blk_drew ?_ | refine blk_alloc ?_ _)); exact BK101.out⟩, ⟨by repeat (first | (with_reducible first | exact HB.out | apply below_alloc | apply pw_below_drewN | apply below_drew1 | refine below_set ?_ GE101.out) | exact HB.out)⟩⟩
    ·
     rw [if_neg c16] at H
     have c16b0 : (a3 == (-1)) = false := beq_eq_false_iff_ne.mpr c16
     have c16b1 : (a3 != (-1)) = true := bne_iff_ne.mpr c16
     (first | rw [c16b0] | (simp only [i64_w, i32_w]; rw [c16b0]) | (simp only [c16b2, Bool.not_false, Bool.not_true]) | skip)
     by_cases c17 : 0 ≤ t108
     ·
      rw [if_pos c17] at H
      have c17b0 : decide (0 ≤ t108) = true := decide_eq_true c17
      clear c17
      by_cases c18 : t108 < (l0.length : Int)
      ·
       rw [if_pos c18] at H
       have c18b0 : decide (t108 < (l0.length : Int)) = true := decide_eq_true c18
       clear c18
       have H' := aa H
       clear H
       have p114 : 0 ≤ (t108 : Int) := of_decide_eq_true zgglam
       have q114 : t108 < (l0.length : Int) := of_decide_eq_true zgglam
       obtain ⟨ad114, e114, hx114_0, hx114_1, hx114_2, hx114_3, hx114_4⟩ := at_T47 HR0.out t108 p114 q114
       cases e114
       replace hx114_0 := pb HB.out hx114_0
       replace hx114_1 := pb HB.out hx114_1
       replace hx114_2 := pb HB.out hx114_2
       replace hx114_3 := pb HB.out hx114_3
       replace hx114_4 := pb HB.out hx114_4
       replace p114 := eq_true p114
       replace q114 := eq_true q114
       go_wp2
       go_meet
       case rel => exact ⟨_, ((a3 != ((rd_T47 l0 t108).f2))), zagbkp, H', ⟨by first | omega | exact Nat.le_refl _⟩, ⟨by (with_reducible repeat (first | refine blk_drewN ?_ _ | refine blk_drew ?_ | refine blk_alloc ?_ _)); exact BK101.out⟩, ⟨by repeat (first | (with_reducible first | exact HB.out | apply below_alloc | apply pw_below_drewN | apply below_drew1 | refine below_set ?_ GE101.out) | exact HB.out)⟩⟩
      ·
       rw [if_neg c18] at H
       exact absurd H (by simp)
     ·
      rw [if_neg c17] at H
      exact absurd H (by simp)
   case rest =>
    clear HC14
    try clear c1
    try clear p1
    try clear q1
    try clear hx1
    try clear p2
    try clear c3
    try clear c4
    try clear c6
    try clear c8
    try clear c8b0
    try clear p11
    try clear q11
    try clear hx11
    try clear c16
    try clear c16b0
    try clear c16b1
    try clear c16b2
    try clear c17
    try clear c17b0
    try clear c18
    try clear c18b0
    try clear hcz12_0
    try clear hcz12_1
    try clear hcz12_2
    try clear hfz12_0
    try clear hfz12_1
    try clear hfz12_2
    try clear hx114_0
    try clear hx114_1
    try clear hx114_2
    try clear hx114_3
    try clear hx114_4
    try clear p114
    try clear q114
    obtain ⟨kq, x31_13, rfl, HA, HJ13, BK101, HB⟩ := hcut
    cases kq with
    | zero => exact absurd HA.out (by simp [spec_l2Set.j0])
    | succ kj13 =>
     have H := HA.out
     clear HA
     simp only [spec_l2Set.j0] at H
     by_cases c19 : x31_13 = true
     ·
      subst c19
      have H1 : ((spec_l2Bad.f 7).bind fun bt115 => (some (bt115.1, bt115.2.1, bt115.2.2))) = some (r1, r2, r3) := by rw [if_pos rfl] at H; exact H
      clear H
      have H := H1
      clear H1
      replace H := Option.bind_eq_some_iff.mp H
      obtain ⟨⟨t115, t116, t117⟩, A200, H⟩ := H
      replace H : (some (t115, t116, t117)) = some (r1, r2, r3) := H
      have A20 := aa A200
      clear A200
      simp only [Option.some.injEq, Prod.mk.injEq] at H
      obtain ⟨rfl, rfl, rfl⟩ := H
      go_wp2_with (first | ((with_reducible refine gate_callee (f := 33) rfl ?_); refine goesL_ (some 32) rfl rfl Tryd.func33 (by kernel_rfl) rfl #[.int .i64 7] rfl zjnmae ?_; (with_reducible refine (spec_l2Bad.calls 7 t115 t116 t117 _ A20.out).mono ?_); rintro e w21 ⟨v118, rfl, ho0, hb⟩; refine ⟨_, rfl, ?_⟩; have n0_ := aa (Kd.R_lower ho0 (below_size zkmbdh)); have n1_ := aa (blk_below (g := gb101) (o := .cells #[.int .i64 0, .string (⟨#[]⟩ : ByteArray), .slice none 0 0] 30 (0, 0)) (zkjhpm BK101.out) hb); have n2_ := aa (below_step zkmbdh hb); clear BK101; clear HB; have HO119 := n0_; have BK101 := n1_; have HB := n2_; clear n0_ n1_ n2_; (try clear hb); (try clear hb2); (try clear hk); (try clear hi); (try clear ho0); have hcz22_0 : w21.cell? ⟨gb101, 0, none⟩ = some (.int .i64 0) := (blk_cell BK101.out 0).trans rfl; have hcz22_1 : w21.cell? ⟨gb101, 1, none⟩ = some (.string (⟨#[]⟩ : ByteArray)) := (blk_cell BK101.out 1).trans rfl; have hcz22_2 : w21.cell? ⟨gb101, 2, none⟩ = some (.slice none 0 0) := (blk_cell BK101.out 2).trans rfl; have hfz22_0 := blk_frozen BK101.out 0; have hfz22_1 := blk_frozen BK101.out 1; have hfz22_2 := blk_frozen BK101.out 2; obtain ⟨Ao23, co23, eo23⟩ := Kd.R_slice HO119.out; subst eo23))
      refine bodyPost_ret (results_cell_row rfl _ _ gb101 30 #[.int .i64 t115, .string t116, .slice Ao23 t117.length co23] (0, 0) _ rfl (by (with_reducible repeat (first | refine blk_drewN ?_ _ | refine blk_drew ?_ | refine blk_alloc ?_ _)); refine blk_put (cs := #[.int .i64 t115, .string t116, .slice none 0 0]) ?_ 2 _ rfl; (with_reducible repeat (first | refine blk_drewN ?_ _ | refine blk_drew ?_ | refine blk_alloc ?_ _)); refine blk_put (cs := #[.int .i64 t115, .string (⟨#[]⟩ : ByteArray), .slice none 0 0]) ?_ 1 _ rfl; (with_reducible repeat (first | refine blk_drewN ?_ _ | refine blk_drew ?_ | refine blk_alloc ?_ _)); refine blk_put (cs := #[.int .i64 0, .string (⟨#[]⟩ : ByteArray), .slice none 0 0]) ?_ 0 _ rfl; (with_reducible repeat (first | refine blk_drewN ?_ _ | refine blk_drew ?_ | refine blk_alloc ?_ _)); exact BK101.out) Tryd.underlying30 rfl (by kernel_rfl)) rfl ?_
      exact ⟨_, by first | rfl | (simp [errW_none, errW_some] <;> rfl) | (simp [*, errW_none, errW_some] <;> rfl), by (with_reducible repeat (first | apply Kd.R_alloc | apply Kd.R_drewN | apply Kd.R_drew)); exact Kd.R_mono (Kd.R_far (p := ⟨gb101, 2, none⟩) (Kd.R_far (p := ⟨gb101, 1, none⟩) (Kd.R_far (p := ⟨gb101, 0, none⟩) (Kd.R_types HO119.out BK101.out (by decide)) (fun _ hk => hk.2) (.int .i64 t115)) (fun _ hk => hk.2) (.string t116)) (fun _ hk => hk.2) (.slice Ao23 t117.length co23)) (fun _ hk => trivial), by repeat (first | (with_reducible first | exact HB.out | apply below_alloc | apply pw_below_drewN | apply below_drew1 | refine below_set ?_ GE101.out) | exact HB.out)⟩
     ·
      replace c19 := Bool.eq_false_iff.mpr c19
      subst c19
      have H1 : (if 0 ≤ t108 then (if t108 < (l0.length : Int) then (if ((rd_T47 l0 t108).f2) ≥ 999 then ((spec_l2Bad.f 2).bind fun bt121 => (some (bt121.1, bt121.2.1, bt121.2.2))) else ((spec_l2Copy.f l0).bind fun t126 => (if t108 < (t126.length : Int) then ((some (t126.set (t108 : Int).toNat (⟨(rd_T47 t126 t108).f0, a2, (rd_T47 t126 t108).f2, (rd_T47 t126 t108).f3, (rd_T47 t126 t108).f4⟩ : S47) : List (S47))).bind fun y129 => (some (0, (⟨#[]⟩ : ByteArray), (y129.set (t108 : Int).toNat (⟨(rd_T47 y129 t108).f0, (rd_T47 y129 t108).f1, wrap64 (((rd_T47 y129 t108).f2) + 1), (rd_T47 y129 t108).f3, (rd_T47 y129 t108).f4⟩ : S47))))) else (none)))) else (none)) else (none)) = some (r1, r2, r3) := by rw [if_neg (show ¬ (false = true) by decide)] at H; exact H
      clear H
      have H := H1
      clear H1
      by_cases c24 : 0 ≤ t108
      ·
       rw [if_pos c24] at H
       have c24b0 : decide (0 ≤ t108) = true := decide_eq_true c24
       clear c24
       by_cases c25 : t108 < (l0.length : Int)
       ·
        rw [if_pos c25] at H
        have c25b0 : decide (t108 < (l0.length : Int)) = true := decide_eq_true c25
        clear c25
        by_cases c26 : ((rd_T47 l0 t108).f2) ≥ 999
        ·
         rw [if_pos c26] at H
         have c26b0 : decide (999 ≤ ((rd_T47 l0 t108).f2)) = true := decide_eq_true c26
         clear c26
         replace H := Option.bind_eq_some_iff.mp H
         obtain ⟨⟨t121, t122, t123⟩, A270, H⟩ := H
         replace H : (some (t121, t122, t123)) = some (r1, r2, r3) := H
         have A27 := aa A270
         clear A270
         simp only [Option.some.injEq, Prod.mk.injEq] at H
         obtain ⟨rfl, rfl, rfl⟩ := H
         have p120 : 0 ≤ (t108 : Int) := of_decide_eq_true zgglam
         have q120 : t108 < (l0.length : Int) := of_decide_eq_true zgglam
         obtain ⟨ad120, e120, hx120_0, hx120_1, hx120_2, hx120_3, hx120_4⟩ := at_T47 HR0.out t108 p120 q120
         cases e120
         replace hx120_0 := pb HB.out hx120_0
         replace hx120_1 := pb HB.out hx120_1
         replace hx120_2 := pb HB.out hx120_2
         replace hx120_3 := pb HB.out hx120_3
         replace hx120_4 := pb HB.out hx120_4
         replace p120 := eq_true p120
         replace q120 := eq_true q120
         go_wp2_with (first | ((with_reducible refine gate_callee (f := 33) rfl ?_); refine goesL_ (some 39) rfl rfl Tryd.func33 (by kernel_rfl) rfl #[.int .i64 2] rfl zjnmae ?_; (with_reducible refine (spec_l2Bad.calls 2 t121 t122 t123 _ A27.out).mono ?_); rintro e w28 ⟨v124, rfl, ho0, hb⟩; refine ⟨_, rfl, ?_⟩; have n0_ := aa (Kd.R_lower ho0 (below_size zkmbdh)); have n1_ := aa (blk_below (g := gb101) (o := .cells #[.int .i64 0, .string (⟨#[]⟩ : ByteArray), .slice none 0 0] 30 (0, 0)) (zkjhpm BK101.out) hb); have n2_ := aa (below_step zkmbdh hb); clear BK101; clear HB; have HO125 := n0_; have BK101 := n1_; have HB := n2_; clear n0_ n1_ n2_; (try clear hb); (try clear hb2); (try clear hk); (try clear hi); (try clear ho0); have hcz29_0 : w28.cell? ⟨gb101, 0, none⟩ = some (.int .i64 0) := (blk_cell BK101.out 0).trans rfl; have hcz29_1 : w28.cell? ⟨gb101, 1, none⟩ = some (.string (⟨#[]⟩ : ByteArray)) := (blk_cell BK101.out 1).trans rfl; have hcz29_2 : w28.cell? ⟨gb101, 2, none⟩ = some (.slice none 0 0) := (blk_cell BK101.out 2).trans rfl; have hfz29_0 := blk_frozen BK101.out 0; have hfz29_1 := blk_frozen BK101.out 1; have hfz29_2 := blk_frozen BK101.out 2; obtain ⟨Ao30, co30, eo30⟩ := Kd.R_slice HO125.out; subst eo30))
         refine bodyPost_ret (results_cell_row rfl _ _ gb101 30 #[.int .i64 t121, .string t122, .slice Ao30 t123.length co30] (0, 0) _ rfl (by (with_reducible repeat (first | refine blk_drewN ?_ _ | refine blk_drew ?_ | refine blk_alloc ?_ _)); refine blk_put (cs := #[.int .i64 t121, .string t122, .slice none 0 0]) ?_ 2 _ rfl; (with_reducible repeat (first | refine blk_drewN ?_ _ | refine blk_drew ?_ | refine blk_alloc ?_ _)); refine blk_put (cs := #[.int .i64 t121, .string (⟨#[]⟩ : ByteArray), .slice none 0 0]) ?_ 1 _ rfl; (with_reducible repeat (first | refine blk_drewN ?_ _ | refine blk_drew ?_ | refine blk_alloc ?_ _)); refine blk_put (cs := #[.int .i64 0, .string (⟨#[]⟩ : ByteArray), .slice none 0 0]) ?_ 0 _ rfl; (with_reducible repeat (first | refine blk_drewN ?_ _ | refine blk_drew ?_ | refine blk_alloc ?_ _)); exact BK101.out) Tryd.underlying30 rfl (by kernel_rfl)) rfl ?_
         exact ⟨_, by first | rfl | (simp [errW_none, errW_some] <;> rfl) | (simp [*, errW_none, errW_some] <;> rfl), by (with_reducible repeat (first | apply Kd.R_alloc | apply Kd.R_drewN | apply Kd.R_drew)); exact Kd.R_mono (Kd.R_far (p := ⟨gb101, 2, none⟩) (Kd.R_far (p := ⟨gb101, 1, none⟩) (Kd.R_far (p := ⟨gb101, 0, none⟩) (Kd.R_types HO125.out BK101.out (by decide)) (fun _ hk => hk.2) (.int .i64 t121)) (fun _ hk => hk.2) (.string t122)) (fun _ hk => hk.2) (.slice Ao30 t123.length co30)) (fun _ hk => trivial), by repeat (first | (with_reducible first | exact HB.out | apply below_alloc | apply pw_below_drewN | apply below_drew1 | refine below_set ?_ GE101.out) | exact HB.out)⟩
        ·
         rw [if_neg c26] at H
         have c26b0 : decide (999 ≤ ((rd_T47 l0 t108).f2)) = false := decide_eq_false c26
         clear c26
         replace H := Option.bind_eq_some_iff.mp H
         obtain ⟨t126, A310, H⟩ := H
         replace H : (if t108 < (t126.length : Int) then ((some (t126.set (t108 : Int).toNat (⟨(rd_T47 t126 t108).f0, a2, (rd_T47 t126 t108).f2, (rd_T47 t126 t108).f3, (rd_T47 t126 t108).f4⟩ : S47) : List (S47))).bind fun y129 => (some (0, (⟨#[]⟩ : ByteArray), (y129.set (t108 : Int).toNat (⟨(rd_T47 y129 t108).f0, (rd_T47 y129 t108).f1, wrap64 (((rd_T47 y129 t108).f2) + 1), (rd_T47 y129 t108).f3, (rd_T47 y129 t108).f4⟩ : S47))))) else (none)) = some (r1, r2, r3) := H
         have A31 := aa A310
         clear A310
         by_cases c32 : t108 < (t126.length : Int)
         ·
          rw [if_pos c32] at H
          have c32b0 : decide (t108 < (t126.length : Int)) = true := decide_eq_true c32
          clear c32
          obtain ⟨y129, hy129⟩ : ∃ y_ : List (S47), y_ = (t126.set (t108 : Int).toNat (⟨(rd_T47 t126 t108).f0, a2, (rd_T47 t126 t108).f2, (rd_T47 t126 t108).f3, (rd_T47 t126 t108).f4⟩ : S47)) := ⟨_, rfl⟩
          replace H : (some (0, (⟨#[]⟩ : ByteArray), (y129.set (t108 : Int).toNat (⟨(rd_T47 y129 t108).f0, (rd_T47 y129 t108).f1, wrap64 (((rd_T47 y129 t108).f2) + 1), (rd_T47 y129 t108).f3, (rd_T47 y129 t108).f4⟩ : S47)))) = some (r1, r2, r3) := by first | (rw [hy129]; with_reducible exact H) | (have H2_ := (Option.bind_some _ _).symm.trans H; rw [hy129]; with_reducible exact H2_) | (have H2_ := (Option.bind_some _ _).symm.trans H; with_reducible exact H2_) | with_reducible exact H | (rw [hy129]; exact H) | exact H
          have Ny129 := aa hy129
          clear hy129
          obtain ⟨y131, hy131⟩ : ∃ y_ : List (S47), y_ = (y129.set (t108 : Int).toNat (⟨(rd_T47 y129 t108).f0, (rd_T47 y129 t108).f1, wrap64 (((rd_T47 y129 t108).f2) + 1), (rd_T47 y129 t108).f3, (rd_T47 y129 t108).f4⟩ : S47)) := ⟨_, rfl⟩
          replace H : (some (0, (⟨#[]⟩ : ByteArray), y131)) = some (r1, r2, r3) := by first | (rw [hy131]; with_reducible exact H) | (have H2_ := (Option.bind_some _ _).symm.trans H; rw [hy131]; with_reducible exact H2_) | (have H2_ := (Option.bind_some _ _).symm.trans H; with_reducible exact H2_) | with_reducible exact H | (rw [hy131]; exact H) | exact H
          have Ny131 := aa hy131
          clear hy131
          simp only [Option.some.injEq, Prod.mk.injEq] at H
          obtain ⟨rfl, rfl, rfl⟩ := H
          have p120 : 0 ≤ (t108 : Int) := of_decide_eq_true zgglam
          have q120 : t108 < (l0.length : Int) := of_decide_eq_true zgglam
          obtain ⟨ad120, e120, hx120_0, hx120_1, hx120_2, hx120_3, hx120_4⟩ := at_T47 HR0.out t108 p120 q120
          cases e120
          replace hx120_0 := pb HB.out hx120_0
          replace hx120_1 := pb HB.out hx120_1
          replace hx120_2 := pb HB.out hx120_2
          replace hx120_3 := pb HB.out hx120_3
          replace hx120_4 := pb HB.out hx120_4
          replace p120 := eq_true p120
          replace q120 := eq_true q120
          go_wp2_with (first | ((with_reducible refine gate_callee (f := 59) rfl ?_); refine goesL_ (some 41) rfl rfl Tryd.func59 (by kernel_rfl) rfl #[.slice (some ad120) l0.length c0] rfl zjnmae ?_; (with_reducible refine (spec_l2Copy.calls _ _ l0 t126 _ ?side1 ?side2 A31.out).mono ?_); (case side1 => exact zfmbgg); (case side2 => exact HC0.out); rintro e w35 ⟨v127, rfl, ho0, hb⟩; refine ⟨_, rfl, ?_⟩; have n0_ := aa (Kd.R_lower ho0 (below_size zkmbdh)); have n1_ := aa (blk_below (g := gb101) (o := .cells #[.int .i64 0, .string (⟨#[]⟩ : ByteArray), .slice none 0 0] 30 (0, 0)) (zkjhpm BK101.out) hb); have n2_ := aa (below_step zkmbdh hb); clear BK101; clear HB; have HO128 := n0_; have BK101 := n1_; have HB := n2_; clear n0_ n1_ n2_; (try clear hb); (try clear hb2); (try clear hk); (try clear hi); (try clear ho0); have p33 : 0 ≤ (t108 : Int) := of_decide_eq_true zgglam; have q33 : (t108 : Int) < ((t126.length : Int) : Int) := of_decide_eq_true zgglam; obtain ⟨go33, co33, eo33, gb33, gl33, cl33, HG33⟩ := Kd.R_form HO128.out (by omega); (first | cases eo33 | (injection eo33 with ea_ en_ ec_; (first | subst ea_ | (injection ea_ with ea_; subst ea_)); subst ec_; clear en_)); have GB33 := aa gb33; have GG33 := aa HG33; clear gb33 gl33 HG33; obtain ⟨ce33, hcl33, hM33, hcc33, hfr33⟩ := Kd.R_elem HO128.out z47 (t108 : Int) p33 q33; obtain rfl := k47_openM hM33; have hx33_0 : w35.cell? ⟨go33, (t108 : Int).toNat * 5, none⟩ = some (.string ((rd_T47 t126 t108).f0)) := hcc33 0 _ rfl; have hx33_1 : w35.cell? ⟨go33, (t108 : Int).toNat * 5 + 1, none⟩ = some (.int .i64 ((rd_T47 t126 t108).f1)) := hcc33 1 _ rfl; have hx33_2 : w35.cell? ⟨go33, (t108 : Int).toNat * 5 + 2, none⟩ = some (.int .i64 ((rd_T47 t126 t108).f2)) := hcc33 2 _ rfl; have hx33_3 : w35.cell? ⟨go33, (t108 : Int).toNat * 5 + 3, none⟩ = some (.int .i64 ((rd_T47 t126 t108).f3)) := hcc33 3 _ rfl; have hx33_4 : w35.cell? ⟨go33, (t108 : Int).toNat * 5 + 4, none⟩ = some (.int .i64 ((rd_T47 t126 t108).f4)) := hcc33 4 _ rfl; have hf33_0 : w35.frozen? ⟨go33, (t108 : Int).toNat * 5, none⟩ = false := hfr33 0; have hf33_1 : w35.frozen? ⟨go33, (t108 : Int).toNat * 5 + 1, none⟩ = false := hfr33 1; have hf33_2 : w35.frozen? ⟨go33, (t108 : Int).toNat * 5 + 2, none⟩ = false := hfr33 2; have hf33_3 : w35.frozen? ⟨go33, (t108 : Int).toNat * 5 + 3, none⟩ = false := hfr33 3; have hf33_4 : w35.frozen? ⟨go33, (t108 : Int).toNat * 5 + 4, none⟩ = false := hfr33 4; clear hcl33 hcc33 hfr33 hM33; replace p33 := eq_true p33; replace q33 := eq_true q33; have HX36 := aa (show Kd.R k47 47 w35 w.heap.size (fun _ => True) (.slice (some ⟨go33, 0, none⟩) t126.length co33) t126 from (zcaken HO128.out)); obtain ⟨ce36, hcl36, hM36, hcc36, hfr36⟩ := Kd.R_elem HX36.out z47 (t108 : Int) (of_decide_eq_true zgglam) (by have h_ : (t108 : Int) < ((t126.length : Int) : Int) := of_decide_eq_true zgglam; first | exact h_ | (have e_ := (Kd.R_reads' HO128.out).1; omega) | simpa using h_); obtain rfl := k47_openM hM36; have HP36 := Kd.R_seg HX36.out (t108 : Int) (of_decide_eq_true zgglam) (by have h_ : (t108 : Int) < ((t126.length : Int) : Int) := of_decide_eq_true zgglam; first | exact h_ | (have e_ := (Kd.R_reads' HO128.out).1; omega) | simpa using h_) (seg := [.int .i64 a2]) (j := 1) hcl36 hcc36 (show 2 ≤ 5 from by decide) (x' := (⟨(rd_T47 t126 t108).f0, a2, (rd_T47 t126 t108).f2, (rd_T47 t126 t108).f3, (rd_T47 t126 t108).f4⟩ : S47)) (k47_mkM _ _ _ (⟨(rd_T47 t126 t108).f0, a2, (rd_T47 t126 t108).f2, (rd_T47 t126 t108).f3, (rd_T47 t126 t108).f4⟩ : S47) ) (fun _ hk => hk); have hx36_1 := hcc36 1 _ rfl; (try simp only [show (k47).sz = 5 from rfl, Nat.mul_one, Nat.add_zero] at hx36_1); have hf36_1 := hfr36 1; (try simp only [show (k47).sz = 5 from rfl, Nat.mul_one, Nat.add_zero] at hf36_1); clear hcl36 hcc36 hfr36 hM36) | ((with_reducible refine gate_store (t := 2) (p := 46) rfl ?_); refine store_event (t := 2) (p := 46) (v := ?vo_w37) (w1 := (w35.setCell ⟨go33, (t108 : Int).toNat * 5 + 1, none⟩ (.int .i64 a2))) ?hg ?ho ?hn ?hr ?_; (case ho => rfl); (case hg => rfl); (case hn => rfl); (case hr => exact zhlgcp); intro w37 hw; have hg : w35.grownBy w37 (some go33) := (by rw [hw]; exact HP36.2); have hp_ : Kd.R k47 47 w37 w.heap.size (fun _ => True) (.slice (some ⟨go33, 0, none⟩) t126.length co33) y129 := (by rw [hw, Ny129.out]; exact HP36.1); clear HP36; have n0_ := aa (blk_grown (g := gb101) (o := .cells #[.int .i64 0, .string (⟨#[]⟩ : ByteArray), .slice none 0 0] 30 (0, 0)) (zkjhpm BK101.out) hg (Kd.R_ne HO128.out BK101.out (by decide))); have n1_ := aa (hp_); have n2_ := aa ((by rw [hw]; exact below_set (HB.out) GB33.out : Below w.heap.size w w37)); clear BK101; clear HO128; clear HB; have BK101 := n0_; have HO128 := n1_; have HB := n2_; clear n0_ n1_ n2_; clear hg hw hp_; have p130 : 0 ≤ (t108 : Int) := of_decide_eq_true zgglam; have q130 : t108 < (y129.length : Int) := (by have h_ : (t108 : Int) < ((t126.length : Int) : Int) := of_decide_eq_true zgglam; first | (have e_ := (Kd.R_reads' HO128.out).1; omega) | simpa only [Ny129.out, List.length_set] using h_); have ql130 : ((t108 : Int) < ((t126.length : Int) : Int)) = True := eq_true (of_decide_eq_true zgglam); obtain ⟨ad130, e130, hx130_0, hx130_1, hx130_2, hx130_3, hx130_4⟩ := at_T47 (Kd.R_reads' HO128.out).2.2 t108 p130 q130; obtain rfl : (⟨go33, 0, none⟩ : Addr) = ad130 := (by injection e130); (first | simp only [add_plain] at hx130_0 | simp only [add_at] at hx130_0 | simp only [Addr.add, Nat.zero_add] at hx130_0 | skip); (first | simp only [add_plain] at hx130_1 | simp only [add_at] at hx130_1 | simp only [Addr.add, Nat.zero_add] at hx130_1 | skip); (first | simp only [add_plain] at hx130_2 | simp only [add_at] at hx130_2 | simp only [Addr.add, Nat.zero_add] at hx130_2 | skip); (first | simp only [add_plain] at hx130_3 | simp only [add_at] at hx130_3 | simp only [Addr.add, Nat.zero_add] at hx130_3 | skip); (first | simp only [add_plain] at hx130_4 | simp only [add_at] at hx130_4 | simp only [Addr.add, Nat.zero_add] at hx130_4 | skip); replace p130 := eq_true p130; replace q130 := eq_true q130; have p34 : 0 ≤ (t108 : Int) := of_decide_eq_true zgglam; have q34 : (t108 : Int) < ((t126.length : Int) : Int) := of_decide_eq_true zgglam; obtain ⟨ce34, hcl34, hM34, hcc34, hfr34⟩ := Kd.R_elem HO128.out z47 (t108 : Int) p34 q34; obtain rfl := k47_openM hM34; have hx34_0 : w37.cell? ⟨go33, (t108 : Int).toNat * 5, none⟩ = some (.string ((rd_T47 y129 t108).f0)) := hcc34 0 _ rfl; have hx34_1 : w37.cell? ⟨go33, (t108 : Int).toNat * 5 + 1, none⟩ = some (.int .i64 ((rd_T47 y129 t108).f1)) := hcc34 1 _ rfl; have hx34_2 : w37.cell? ⟨go33, (t108 : Int).toNat * 5 + 2, none⟩ = some (.int .i64 ((rd_T47 y129 t108).f2)) := hcc34 2 _ rfl; have hx34_3 : w37.cell? ⟨go33, (t108 : Int).toNat * 5 + 3, none⟩ = some (.int .i64 ((rd_T47 y129 t108).f3)) := hcc34 3 _ rfl; have hx34_4 : w37.cell? ⟨go33, (t108 : Int).toNat * 5 + 4, none⟩ = some (.int .i64 ((rd_T47 y129 t108).f4)) := hcc34 4 _ rfl; have hf34_0 : w37.frozen? ⟨go33, (t108 : Int).toNat * 5, none⟩ = false := hfr34 0; have hf34_1 : w37.frozen? ⟨go33, (t108 : Int).toNat * 5 + 1, none⟩ = false := hfr34 1; have hf34_2 : w37.frozen? ⟨go33, (t108 : Int).toNat * 5 + 2, none⟩ = false := hfr34 2; have hf34_3 : w37.frozen? ⟨go33, (t108 : Int).toNat * 5 + 3, none⟩ = false := hfr34 3; have hf34_4 : w37.frozen? ⟨go33, (t108 : Int).toNat * 5 + 4, none⟩ = false := hfr34 4; clear hcl34 hcc34 hfr34 hM34; replace p34 := eq_true p34; replace q34 := eq_true q34; have HX38 := aa (show Kd.R k47 47 w37 w.heap.size (fun _ => True) (.slice (some ⟨go33, 0, none⟩) t126.length co33) y129 from (zcaken HO128.out)); obtain ⟨ce38, hcl38, hM38, hcc38, hfr38⟩ := Kd.R_elem HX38.out z47 (t108 : Int) (of_decide_eq_true zgglam) (by have h_ : (t108 : Int) < ((t126.length : Int) : Int) := of_decide_eq_true zgglam; first | exact h_ | (have e_ := (Kd.R_reads' HO128.out).1; omega) | simpa using h_); obtain rfl := k47_openM hM38; have HP38 := Kd.R_seg HX38.out (t108 : Int) (of_decide_eq_true zgglam) (by have h_ : (t108 : Int) < ((t126.length : Int) : Int) := of_decide_eq_true zgglam; first | exact h_ | (have e_ := (Kd.R_reads' HO128.out).1; omega) | simpa using h_) (seg := [.int .i64 (wrap64 (((rd_T47 y129 t108).f2) + 1))]) (j := 2) hcl38 hcc38 (show 3 ≤ 5 from by decide) (x' := (⟨(rd_T47 y129 t108).f0, (rd_T47 y129 t108).f1, wrap64 (((rd_T47 y129 t108).f2) + 1), (rd_T47 y129 t108).f3, (rd_T47 y129 t108).f4⟩ : S47)) (k47_mkM _ _ _ (⟨(rd_T47 y129 t108).f0, (rd_T47 y129 t108).f1, wrap64 (((rd_T47 y129 t108).f2) + 1), (rd_T47 y129 t108).f3, (rd_T47 y129 t108).f4⟩ : S47) ) (fun _ hk => hk); have hx38_2 := hcc38 2 _ rfl; (try simp only [show (k47).sz = 5 from rfl, Nat.mul_one, Nat.add_zero] at hx38_2); have hf38_2 := hfr38 2; (try simp only [show (k47).sz = 5 from rfl, Nat.mul_one, Nat.add_zero] at hf38_2); clear hcl38 hcc38 hfr38 hM38) | ((with_reducible refine gate_store (t := 2) (p := 54) rfl ?_); refine store_event (t := 2) (p := 54) (v := ?vo_w39) (w1 := (w37.setCell ⟨go33, (t108 : Int).toNat * 5 + 2, none⟩ (.int .i64 (wrap64 (((rd_T47 y129 t108).f2) + 1))))) ?hg ?ho ?hn ?hr ?_; (case ho => rfl); (case hg => rfl); (case hn => rfl); (case hr => exact zhlgcp); intro w39 hw; have hg : w37.grownBy w39 (some go33) := (by rw [hw]; exact HP38.2); have hp_ : Kd.R k47 47 w39 w.heap.size (fun _ => True) (.slice (some ⟨go33, 0, none⟩) t126.length co33) y131 := (by rw [hw, Ny131.out]; exact HP38.1); clear HP38; have n0_ := aa (blk_grown (g := gb101) (o := .cells #[.int .i64 0, .string (⟨#[]⟩ : ByteArray), .slice none 0 0] 30 (0, 0)) (zkjhpm BK101.out) hg (Kd.R_ne HO128.out BK101.out (by decide))); have n1_ := aa (hp_); have n2_ := aa ((by rw [hw]; exact below_set (HB.out) GB33.out : Below w.heap.size w w39)); clear BK101; clear HO128; clear HB; have BK101 := n0_; have HO128 := n1_; have HB := n2_; clear n0_ n1_ n2_; clear hg hw hp_; have hcz40_0 : w39.cell? ⟨gb101, 0, none⟩ = some (.int .i64 0) := (blk_cell BK101.out 0).trans rfl; have hcz40_1 : w39.cell? ⟨gb101, 1, none⟩ = some (.string (⟨#[]⟩ : ByteArray)) := (blk_cell BK101.out 1).trans rfl; have hcz40_2 : w39.cell? ⟨gb101, 2, none⟩ = some (.slice none 0 0) := (blk_cell BK101.out 2).trans rfl; have hfz40_0 := blk_frozen BK101.out 0; have hfz40_1 := blk_frozen BK101.out 1; have hfz40_2 := blk_frozen BK101.out 2))
          refine bodyPost_ret (results_cell_row rfl _ _ gb101 30 #[.int .i64 0, .string (⟨#[]⟩ : ByteArray), .slice (some ⟨go33, 0, none⟩) t126.length co33] (0, 0) _ rfl zkhiid Tryd.underlying30 rfl (by kernel_rfl)) rfl ?_
          exact ⟨_, by first | rfl | (simp [errW_none, errW_some] <;> rfl) | (simp [*, errW_none, errW_some] <;> rfl), by (with_reducible repeat (first | apply Kd.R_alloc | apply Kd.R_drewN | apply Kd.R_drew)); exact Kd.R_mono (Kd.R_far (p := ⟨gb101, 2, none⟩) (Kd.R_far (p := ⟨gb101, 1, none⟩) (Kd.R_far (p := ⟨gb101, 0, none⟩) (Kd.R_types HO128.out BK101.out (by decide)) (fun _ hk => hk.2) (.int .i64 0)) (fun _ hk => hk.2) (.string (⟨#[]⟩ : ByteArray))) (fun _ hk => hk.2) (.slice (some ⟨go33, 0, none⟩) t126.length co33)) (fun _ hk => trivial), by repeat (first | (with_reducible first | exact HB.out | apply below_alloc | apply pw_below_drewN | apply below_drew1 | refine below_set ?_ GE101.out) | exact HB.out)⟩
         ·
          rw [if_neg c32] at H
          exact absurd H (by simp)
       ·
        rw [if_neg c25] at H
        exact absurd H (by simp)
      ·
       rw [if_neg c24] at H
       exact absurd H (by simp)
 ·
  replace c6 := Bool.eq_false_iff.mpr c6
  subst c6
  have H1 : ((spec_l2Bad.f 3).bind fun bt103 => (some (bt103.1, bt103.2.1, bt103.2.2))) = some (r1, r2, r3) := by rw [if_neg (show ¬ (false = true) by decide)] at H; exact H
  clear H
  have H := H1
  clear H1
  replace H := Option.bind_eq_some_iff.mp H
  obtain ⟨⟨t103, t104, t105⟩, A410, H⟩ := H
  replace H : (some (t103, t104, t105)) = some (r1, r2, r3) := H
  have A41 := aa A410
  clear A410
  simp only [Option.some.injEq, Prod.mk.injEq] at H
  obtain ⟨rfl, rfl, rfl⟩ := H
  go_enter Tryd.func43, Tryd.ntmps43
  go_wp2_with (first | ((with_reducible refine gate_dst (N := 8) rfl ?_); refine box_event ?hg (N := 8) ?hd (cs := #[.int .i64 0, .string (⟨#[]⟩ : ByteArray), .slice none 0 0]) (t := 30) ?hr ?_; (case hd => rfl); (case hg => rfl); (case hr => exact zhlgcp); intro gb101 hg w42 hbox hb; have n0_ := aa (below_step zjjbob hb); have n1_ := aa (hbox); have n2_ := aa ((zkpfjp : w.heap.size ≤ gb101)); have n3_ := aa ((zkpfjp : w.heap.size ≤ gb101)); clear HB; have HB := n0_; have BK101 := n1_; have GW101 := n2_; have GE101 := n3_; clear n0_ n1_ n2_ n3_; clear hb hbox hg) | ((with_reducible refine gate_callee (f := 48) rfl ?_); refine goesL_ (some 12) rfl rfl Tryd.func48 (by kernel_rfl) rfl #[.int .i64 a2] rfl zjnmae ?_; (with_reducible refine (spec_l2Data.calls a2 false _ A5.out).mono ?_); rintro e w' ⟨rfl, ⟨nd, rfl⟩⟩; refine ⟨_, rfl, ?_⟩; (try (rw [drewN_self w42]; generalize hq_ : World.drewN w42 _ = w42; have n0_ : Aside0 (w42.heap[gb101]? = some (.cells #[.int .i64 0, .string (⟨#[]⟩ : ByteArray), .slice none 0 0] 30 (0, 0))) := ⟨by rw [← hq_]; exact (zkjhpm BK101.out)⟩; have n1_ : Aside0 (Below w.heap.size w w42) := ⟨by rw [← hq_]; exact zkmbdh⟩; clear BK101 HB hq_; have BK101 := n0_; have HB := n1_; clear n0_ n1_))) | ((with_reducible refine gate_callee (f := 33) rfl ?_); refine goesL_ (some 14) rfl rfl Tryd.func33 (by kernel_rfl) rfl #[.int .i64 3] rfl zjnmae ?_; (with_reducible refine (spec_l2Bad.calls 3 t103 t104 t105 _ A41.out).mono ?_); rintro e w43 ⟨v106, rfl, ho0, hb⟩; refine ⟨_, rfl, ?_⟩; have n0_ := aa (Kd.R_lower ho0 (below_size zkmbdh)); have n1_ := aa (blk_below (g := gb101) (o := .cells #[.int .i64 0, .string (⟨#[]⟩ : ByteArray), .slice none 0 0] 30 (0, 0)) (zkjhpm BK101.out) hb); have n2_ := aa (below_step zkmbdh hb); clear BK101; clear HB; have HO107 := n0_; have BK101 := n1_; have HB := n2_; clear n0_ n1_ n2_; (try clear hb); (try clear hb2); (try clear hk); (try clear hi); (try clear ho0); have hcz44_0 : w43.cell? ⟨gb101, 0, none⟩ = some (.int .i64 0) := (blk_cell BK101.out 0).trans rfl; have hcz44_1 : w43.cell? ⟨gb101, 1, none⟩ = some (.string (⟨#[]⟩ : ByteArray)) := (blk_cell BK101.out 1).trans rfl; have hcz44_2 : w43.cell? ⟨gb101, 2, none⟩ = some (.slice none 0 0) := (blk_cell BK101.out 2).trans rfl; have hfz44_0 := blk_frozen BK101.out 0; have hfz44_1 := blk_frozen BK101.out 1; have hfz44_2 := blk_frozen BK101.out 2; obtain ⟨Ao45, co45, eo45⟩ := Kd.R_slice HO107.out; subst eo45))
  refine bodyPost_ret (results_cell_row rfl _ _ gb101 30 #[.int .i64 t103, .string t104, .slice Ao45 t105.length co45] (0, 0) _ rfl zdmkil Tryd.underlying30 rfl (by kernel_rfl)) rfl ?_
  exact ⟨_, by first | rfl | (simp [errW_none, errW_some] <;> rfl) | (simp [*, errW_none, errW_some] <;> rfl), by (with_reducible repeat (first | apply Kd.R_alloc | apply Kd.R_drewN | apply Kd.R_drew)); exact Kd.R_mono (Kd.R_far (p := ⟨gb101, 2, none⟩) (Kd.R_far (p := ⟨gb101, 1, none⟩) (Kd.R_far (p := ⟨gb101, 0, none⟩) (Kd.R_types HO107.out BK101.out (by decide)) (fun _ hk => hk.2) (.int .i64 t103)) (fun _ hk => hk.2) (.string t104)) (fun _ hk => hk.2) (.slice Ao45 t105.length co45)) (fun _ hk => trivial), by repeat (first | (with_reducible first | exact HB.out | apply below_alloc | apply pw_below_drewN | apply below_drew1 | refine below_set ?_ GE101.out) | exact HB.out)⟩

end Go.Proofs.YtdemicncljgccaaDoor.Qa
