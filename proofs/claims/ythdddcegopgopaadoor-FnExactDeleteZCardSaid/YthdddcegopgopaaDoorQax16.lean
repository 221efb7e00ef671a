-- By gp.py (wip/gen of the work's repo), a program of this workplace over the kit's print: Lean checks it.
import Derived.Test.YthdddcegopgopaaDoorQax0
import Derived.Test.YthdddcegopgopaaDoorQax11
import Derived.Test.YthdddcegopgopaaDoorQax12
namespace Go.Proofs.YthdddcegopgopaaDoor.Qa
open Go.RowKit Go.Proofs.YthdddcegopgopaaDoorW.PrintWords Go.Proofs.YthdddcegopgopaaDoorW.PrintLast Go.Proofs.YthdddcegopgopaaDoorW.PrintMore
attribute [local go_sem] max2_int min2_int max_two min_two max_three min_three max_four min_four   -- for this text's walks alone
set_option linter.unusedVariables false
set_option linter.unusedSimpArgs false
set_option maxHeartbeats 8000000
set_option maxRecDepth 100000

/-! ### spec_l2Kids: function 50 -/
def spec_l2Kids.l0 : Nat → List (S47) → ByteArray → List ByteArray → Int → Option (List ByteArray)
 | 0, _, _, _, _ => none
 | k + 1, x0, x1, x5, x6 => if x6 < (x0.length : Int) then (if 0 ≤ x6 then (if ((rd_T47 x0 x6).f0).toList = ([47] : List UInt8) then (spec_l2Kids.l0 k x0 x1 x5 (wrap64 (x6 + 1))) else ((spec_l1Parent.f k ((rd_T47 x0 x6).f0)).bind fun t105 => (if t105.toList = x1.toList then ((spec_l1Last.f k ((rd_T47 x0 x6).f0)).bind fun t106 => (if 0 ≤ (wrap64 (t106 + 1)) then (if (wrap64 (t106 + 1)) ≤ (((rd_T47 x0 x6).f0).size : Int) then (if x5.length < 8796093022208 then (spec_l2Kids.l0 k x0 x1 (x5 ++ [((rd_T47 x0 x6).f0).extract ((wrap64 (t106 + 1)) : Int).toNat ((rd_T47 x0 x6).f0).size]) (wrap64 (x6 + 1))) else (none)) else (none)) else (none))) else (spec_l2Kids.l0 k x0 x1 x5 (wrap64 (x6 + 1)))))) else (none)) else (some x5)
def spec_l2Kids.f (k : Nat) (l0 : List (S47)) (a1 : ByteArray) : Option (List ByteArray) := spec_l2Kids.l0 k l0 a1 (([] : List ByteArray)) 0
theorem spec_l2Kids.mono_l : ∀ k, (∀ y0 y1 y2 y3, LeO (spec_l2Kids.l0 k y0 y1 y2 y3) (spec_l2Kids.l0 (k + 1) y0 y1 y2 y3))
 | 0 => fun _ _ _ _ r h => by simp [spec_l2Kids.l0] at h
 | k + 1 => by
  have ih0 := spec_l2Kids.mono_l k
  ·
   intro y0 y1 y2 y3
   unfold spec_l2Kids.l0
   repeat' first
   | (with_reducible exact ih0 _ _ _ _)
   | (with_reducible exact spec_l1Last.mono _ _)
   | (with_reducible exact spec_l1Parent.mono _ _)
   | (with_reducible exact LeO.refl _)
   | (with_reducible exact LeO.none _)
   | (with_reducible refine LeO.ite ?_ ?_)
   | (with_reducible refine LeO.bind ?_ (fun _ => ?_))
   | exact ih0 _ _ _ _
   | exact spec_l1Last.mono _ _
   | exact spec_l1Parent.mono _ _
   | exact LeO.none _
   | refine LeO.ite ?_ ?_
   | refine LeO.bind ?_ (fun _ => ?_)
theorem spec_l2Kids.mono : ∀ a0 a1 k, LeO (spec_l2Kids.f k a0 a1) (spec_l2Kids.f (k + 1) a0 a1) := by
 intro a0 a1 k
 have ih0 := spec_l2Kids.mono_l k
 unfold spec_l2Kids.f
 repeat' first
   | (with_reducible exact ih0 _ _ _ _)
   | (with_reducible exact spec_l1Last.mono _ _)
   | (with_reducible exact spec_l1Parent.mono _ _)
   | (with_reducible exact LeO.refl _)
   | (with_reducible exact LeO.none _)
   | (with_reducible refine LeO.ite ?_ ?_)
   | (with_reducible refine LeO.bind ?_ (fun _ => ?_))
   | exact ih0 _ _ _ _
   | exact spec_l1Last.mono _ _
   | exact spec_l1Parent.mono _ _
   | exact LeO.none _
   | refine LeO.ite ?_ ?_
   | refine LeO.bind ?_ (fun _ => ?_)
theorem spec_l2Kids.calls (k : Nat) (A0 : Option Addr) (c0 : Nat) (l0 : List (S47)) (a1 : ByteArray) (r : List ByteArray) (w : World) (hr0 : Kd.C k47 w A0 l0.length l0) (hc0 : l0.length ≤ c0) (h : spec_l2Kids.f k l0 a1 = some r) :
  Calls Tryd.prog 50 #[.slice A0 l0.length c0, .string a1] w fun e w' => ∃ v0_ : Value, e = .returned (v0_) ∧ Kd.R Kd.string 9 w' w.heap.size (fun _ => True) v0_ r ∧ Below w.heap.size w w' := by
 have HR0 := aa hr0
 have HC0 := aa hc0
 clear hr0 hc0
 have HB := aa (Below.refl w.heap.size w)
 have H : (spec_l2Kids.l0 k l0 a1 (([] : List ByteArray)) 0) = some r := h
 clear h
 obtain ⟨y101, hy101⟩ : ∃ y_ : List ByteArray, y_ = (([] : List ByteArray)) := ⟨_, rfl⟩
 replace H : (spec_l2Kids.l0 k l0 a1 y101 0) = some r := by first | (rw [hy101]; with_reducible exact H) | (have H2_ := (Option.bind_some _ _).symm.trans H; rw [hy101]; with_reducible exact H2_) | (have H2_ := (Option.bind_some _ _).symm.trans H; with_reducible exact H2_) | with_reducible exact H | (rw [hy101]; exact H) | exact H
 have Ny101 := aa hy101
 clear hy101
 have H' := aa H
 clear H
 go_enter Tryd.func50, Tryd.ntmps50
 go_wp2_with (first | ((with_reducible refine gate_dst (N := 8) rfl ?_); refine Kd.R_lit Kd.string _ 9 ?hg (N := 8) ?hd (xs := ([] : List ByteArray)) (inner := []) (ok := fun _ => True) (okp := fun _ => True) ?hr ?hp (fun _ hk => hk) trivial (Below.refl _ _) (Nat.le_refl _) (by simp) ?_; (case hd => rfl); (case hg => rfl); (case hr => exact zhlgcp); (case hp => exact (Reps.none _ _)); intro v102 w3 ho4 hb hg_ hnew_; clear hg_ hnew_; (first | rw [← Ny101.out] at ho4 | (simp only [Int.reduceToNat] at ho4; rw [← Ny101.out] at ho4)); have n0_ := aa (Kd.R_lower ho4 (below_size zjjbob)); have n1_ := aa (below_step zjjbob hb); clear HB; have HO103 := n0_; have HB := n1_; clear n0_ n1_; clear hb ho4))
 go_loopg [5, 6] k (fun kq v5 v6 w' => ∃ (x5_1 : List ByteArray) (x6_1 : Int), v6 = .int .i64 x6_1 ∧ Aside0 (spec_l2Kids.l0 kq l0 a1 x5_1 x6_1 = some r) ∧ Aside0 (kq ≤ k) ∧ Aside0 (Kd.R Kd.string 9 w' w.heap.size (fun _ => True) v5 x5_1) ∧ Aside0 (Below w.heap.size w w'))
 case atStart => exact ⟨(y101), (0), zagbkp, H', ⟨Nat.le_refl _⟩, ⟨by (with_reducible repeat (first | apply Kd.R_alloc | apply Kd.R_drewN | apply Kd.R_drew)); exact HO103.out⟩, ⟨by repeat (first | (with_reducible first | exact HB.out | apply below_alloc | apply pw_below_drewN | apply below_drew1) | exact HB.out)⟩⟩
 case round =>
  clear H'
  try clear p2
  obtain ⟨x5_1, x6_1, rfl, HA, HK1, HO_5, HB⟩ := hrel
  cases gk with
  | zero => exact absurd HA.out (by simp [spec_l2Kids.l0])
  | succ k1 =>
   have H := HA.out
   clear HA
   simp only [spec_l2Kids.l0] at H
   by_cases c5 : x6_1 < (l0.length : Int)
   ·
    rw [if_pos c5] at H
    have c5b0 : decide (x6_1 < (l0.length : Int)) = true := decide_eq_true c5
    clear c5
    by_cases c6 : 0 ≤ x6_1
    ·
     rw [if_pos c6] at H
     have c6b0 : decide (0 ≤ x6_1) = true := decide_eq_true c6
     clear c6
     by_cases c7 : ((rd_T47 l0 x6_1).f0).toList = ([47] : List UInt8)
     ·
      rw [if_pos c7] at H
      have c7b0 : (((rd_T47 l0 x6_1).f0).toList == ([47] : List UInt8)) = true := beq_iff_eq.mpr c7
      have c7b1 : (((rd_T47 l0 x6_1).f0).toList != ([47] : List UInt8)) = false := bne_eq_false_iff_eq.mpr c7
      clear c7
      have H' := aa H
      clear H
      have p104 : 0 ≤ (x6_1 : Int) := of_decide_eq_true zgglam
      have q104 : x6_1 < (l0.length : Int) := of_decide_eq_true zgglam
      obtain ⟨ad104, e104, hx104_0, hx104_1, hx104_2, hx104_3, hx104_4⟩ := at_T47 HR0.out x6_1 p104 q104
      cases e104
      replace hx104_0 := pb HB.out hx104_0
      replace hx104_1 := pb HB.out hx104_1
      replace hx104_2 := pb HB.out hx104_2
      replace hx104_3 := pb HB.out hx104_3
      replace hx104_4 := pb HB.out hx104_4
      replace p104 := eq_true p104
      replace q104 := eq_true q104
      go_wp2
      go_roundg k1
      case measure => have := HK1.out; omega
      case rel => exact ⟨(x5_1), (wrap64 (x6_1 + 1)), zagbkp, H', ⟨by have := HK1.out; omega⟩, ⟨by (with_reducible repeat (first | apply Kd.R_alloc | apply Kd.R_drewN | apply Kd.R_drew)); exact HO_5.out⟩, ⟨by repeat (first | (with_reducible first | exact HB.out | apply below_alloc | apply pw_below_drewN | apply below_drew1) | exact HB.out)⟩⟩
     ·
      rw [if_neg c7] at H
      have c7b0 : (((rd_T47 l0 x6_1).f0).toList == ([47] : List UInt8)) = false := beq_eq_false_iff_ne.mpr c7
      have c7b1 : (((rd_T47 l0 x6_1).f0).toList != ([47] : List UInt8)) = true := bne_iff_ne.mpr c7
      replace H := Option.bind_eq_some_iff.mp H
      obtain ⟨t105, A80, H⟩ := H
      replace H : (if t105.toList = a1.toList then ((spec_l1Last.f k1 ((rd_T47 l0 x6_1).f0)).bind fun t106 => (if 0 ≤ (wrap64 (t106 + 1)) then (if (wrap64 (t106 + 1)) ≤ (((rd_T47 l0 x6_1).f0).size : Int) then (if x5_1.length < 8796093022208 then (spec_l2Kids.l0 k1 l0 a1 (x5_1 ++ [((rd_T47 l0 x6_1).f0).extract ((wrap64 (t106 + 1)) : Int).toNat ((rd_T47 l0 x6_1).f0).size]) (wrap64 (x6_1 + 1))) else (none)) else (none)) else (none))) else (spec_l2Kids.l0 k1 l0 a1 x5_1 (wrap64 (x6_1 + 1)))) = some r := H
      have A8 := aa A80
      clear A80
      by_cases c9 : t105.toList = a1.toList
      ·
       rw [if_pos c9] at H
       have c9b0 : (t105.toList == a1.toList) = true := beq_iff_eq.mpr c9
       have c9b1 : (t105.toList != a1.toList) = false := bne_eq_false_iff_eq.mpr c9
       clear c9
       replace H := Option.bind_eq_some_iff.mp H
       obtain ⟨t106, A100, H⟩ := H
       replace H : (if 0 ≤ (wrap64 (t106 + 1)) then (if (wrap64 (t106 + 1)) ≤ (((rd_T47 l0 x6_1).f0).size : Int) then (if x5_1.length < 8796093022208 then (spec_l2Kids.l0 k1 l0 a1 (x5_1 ++ [((rd_T47 l0 x6_1).f0).extract ((wrap64 (t106 + 1)) : Int).toNat ((rd_T47 l0 x6_1).f0).size]) (wrap64 (x6_1 + 1))) else (none)) else (none)) else (none)) = some r := H
       have A10 := aa A100
       clear A100
       obtain ⟨ji11, hji11⟩ : ∃ j_ : Int, (wrap64 (t106 + 1)) = j_ := ⟨_, rfl⟩
       replace H : (if 0 ≤ (ji11) then (if (ji11) ≤ (((rd_T47 l0 x6_1).f0).size : Int) then (if x5_1.length < 8796093022208 then (spec_l2Kids.l0 k1 l0 a1 (x5_1 ++ [((rd_T47 l0 x6_1).f0).extract ((ji11) : Int).toNat ((rd_T47 l0 x6_1).f0).size]) (wrap64 (x6_1 + 1))) else (none)) else (none)) else (none)) = some r := by first | (rw [hji11] at H; exact H) | (simp only [hji11] at H ⊢; exact H)
       (try rw [hji11] at A8)
       (try rw [hji11] at A10)
       have hji11w : (IntKind.i64.wrap (t106 + 1)) = ji11 := (i64_w _).trans hji11
       by_cases c12 : 0 ≤ (ji11)
       ·
        rw [if_pos c12] at H
        have c12b0 := eq_true c12
        have c12b1 : decide (0 ≤ (ji11)) = true := decide_eq_true c12
        clear c12
        by_cases c13 : (ji11) ≤ (((rd_T47 l0 x6_1).f0).size : Int)
        ·
         rw [if_pos c13] at H
         have c13b0 := eq_true c13
         have c13b1 : decide ((ji11) ≤ (((rd_T47 l0 x6_1).f0).size : Int)) = true := decide_eq_true c13
         clear c13
         by_cases c14 : x5_1.length < 8796093022208
         ·
          rw [if_pos c14] at H
          have LMc14 := aa c14
          clear c14
          obtain ⟨y107, hy107⟩ : ∃ y_ : List ByteArray, y_ = (x5_1 ++ [((rd_T47 l0 x6_1).f0).extract ((ji11) : Int).toNat ((rd_T47 l0 x6_1).f0).size]) := ⟨_, rfl⟩
          replace H : (spec_l2Kids.l0 k1 l0 a1 y107 (wrap64 (x6_1 + 1))) = some r := by first | (rw [hy107]; with_reducible exact H) | (have H2_ := (Option.bind_some _ _).symm.trans H; rw [hy107]; with_reducible exact H2_) | (have H2_ := (Option.bind_some _ _).symm.trans H; with_reducible exact H2_) | with_reducible exact H | (rw [hy107]; exact H) | exact H
          have Ny107 := aa hy107
          clear hy107
          have H' := aa H
          clear H
          have p104 : 0 ≤ (x6_1 : Int) := of_decide_eq_true zgglam
          have q104 : x6_1 < (l0.length : Int) := of_decide_eq_true zgglam
          obtain ⟨ad104, e104, hx104_0, hx104_1, hx104_2, hx104_3, hx104_4⟩ := at_T47 HR0.out x6_1 p104 q104
          cases e104
          replace hx104_0 := pb HB.out hx104_0
          replace hx104_1 := pb HB.out hx104_1
          replace hx104_2 := pb HB.out hx104_2
          replace hx104_3 := pb HB.out hx104_3
          replace hx104_4 := pb HB.out hx104_4
          replace p104 := eq_true p104
          replace q104 := eq_true q104
          go_wp2_with (first | (go_at_call 55; (with_reducible refine (spec_l1Parent.calls k1 ((rd_T47 l0 x6_1).f0) t105 _ A8.out).mono ?_); rintro e w' ⟨rfl, ⟨nd, rfl⟩⟩) | ((with_reducible refine gate_callee (f := 57) rfl ?_); refine goesL_ (some 31) rfl rfl Tryd.func57 (by kernel_rfl) rfl #[.string ((rd_T47 l0 x6_1).f0)] rfl zjnmae ?_; (with_reducible refine (spec_l1Last.calls k1 ((rd_T47 l0 x6_1).f0) t106 _ A10.out).mono ?_); rintro e w' ⟨rfl, ⟨nd, rfl⟩⟩; refine ⟨_, rfl, ?_⟩) | ((with_reducible refine gate_builtin (b := .append) (xs := #[.tmp 28, .tmp 34]) rfl ?_); at_builtin; refine Kd.R_append Kd.string (w0 := w) w.heap.size rfl (.tmp 28) (.tmp 34) 52 9 (.string ⟨#[]⟩) 16 rfl Tryd.underlying52 info9 rfl (by decide) (by omega) u5 x5_1 (((rd_T47 l0 x6_1).f0).extract ((ji11) : Int).toNat ((rd_T47 l0 x6_1).f0).size) [.string (((rd_T47 l0 x6_1).f0).extract ((ji11) : Int).toNat ((rd_T47 l0 x6_1).f0).size)] (fun _ => True) (fun _ => False) rfl rfl ?aP (fun _ hk => hk.elim) ?aF ?aO ?aB ?aS ?aL ?_; (case aP => exact rfl); (case aB => exact zjjbob); (case aF => exact (fun _ _ => trivial)); (case aO => exact (zcaken HO_5.out)); (case aS => exact (below_size zjjbob)); (case aL => have := LMc14.out; omega); intro v108 w15 ho hb hg hat; rw [← Ny107.out] at ho; have n0_ := aa (hb); have n1_ := aa (ho); clear HB; clear HO_5; have HB := n0_; have HO109 := n1_; clear n0_ n1_; clear ho hb hg hat))
          go_roundg k1
          case measure => have := HK1.out; omega
          case rel => exact ⟨(y107), (wrap64 (x6_1 + 1)), zagbkp, H', ⟨by have := HK1.out; omega⟩, ⟨by (with_reducible repeat (first | apply Kd.R_alloc | apply Kd.R_drewN | apply Kd.R_drew)); exact HO109.out⟩, ⟨by repeat (first | (with_reducible first | exact HB.out | apply below_alloc | apply pw_below_drewN | apply below_drew1) | exact HB.out)⟩⟩
         ·
          rw [if_neg c14] at H
          exact absurd H (by simp)
        ·
         rw [if_neg c13] at H
         exact absurd H (by simp)
       ·
        rw [if_neg c12] at H
        exact absurd H (by simp)
      ·
       rw [if_neg c9] at H
       have c9b0 : (t105.toList == a1.toList) = false := beq_eq_false_iff_ne.mpr c9
       have c9b1 : (t105.toList != a1.toList) = true := bne_iff_ne.mpr c9
       have H' := aa H
       clear H
       have p104 : 0 ≤ (x6_1 : Int) := of_decide_eq_true zgglam
       have q104 : x6_1 < (l0.length : Int) := of_decide_eq_true zgglam
       obtain ⟨ad104, e104, hx104_0, hx104_1, hx104_2, hx104_3, hx104_4⟩ := at_T47 HR0.out x6_1 p104 q104
       cases e104
       replace hx104_0 := pb HB.out hx104_0
       replace hx104_1 := pb HB.out hx104_1
       replace hx104_2 := pb HB.out hx104_2
       replace hx104_3 := pb HB.out hx104_3
       replace hx104_4 := pb HB.out hx104_4
       replace p104 := eq_true p104
       replace q104 := eq_true q104
       go_wp2_with (first | (go_at_call 55; (with_reducible refine (spec_l1Parent.calls k1 ((rd_T47 l0 x6_1).f0) t105 _ A8.out).mono ?_); rintro e w' ⟨rfl, ⟨nd, rfl⟩⟩))
       go_roundg k1
       case measure => have := HK1.out; omega
       case rel => exact ⟨(x5_1), (wrap64 (x6_1 + 1)), zagbkp, H', ⟨by have := HK1.out; omega⟩, ⟨by (with_reducible repeat (first | apply Kd.R_alloc | apply Kd.R_drewN | apply Kd.R_drew)); exact HO_5.out⟩, ⟨by repeat (first | (with_reducible first | exact HB.out | apply below_alloc | apply pw_below_drewN | apply below_drew1) | exact HB.out)⟩⟩
    ·
     rw [if_neg c6] at H
     exact absurd H (by simp)
   ·
    rw [if_neg c5] at H
    have c5b0 : decide (x6_1 < (l0.length : Int)) = false := decide_eq_false c5
    clear c5
    obtain rfl := Option.some.inj H
    go_wp2
    go_ret
    exact ⟨_, by first | rfl | (simp [errW_none, errW_some] <;> rfl) | (simp [*, errW_none, errW_some] <;> rfl), by (with_reducible repeat (first | apply Kd.R_alloc | apply Kd.R_drewN | apply Kd.R_drew)); exact HO_5.out, by repeat (first | (with_reducible first | exact HB.out | apply below_alloc | apply pw_below_drewN | apply below_drew1) | exact HB.out)⟩

end Go.Proofs.YthdddcegopgopaaDoor.Qa
