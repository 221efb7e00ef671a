/- A part of the proof that for every input the law FnExactDropOwned returns true: no condition. Functions of the translation, each proved to do what a plain Lean function tells, and what these tell. -/
import Derived.Test.YtajlnffefoeppaaDoorQax0
import Derived.Test.YtajlnffefoeppaaDoorQax24
import Derived.Test.YtajlnffefoeppaaDoorQax25
import Derived.Test.YtajlnffefoeppaaDoorQax28
import Derived.Test.YtajlnffefoeppaaDoorQax23
-- By gp.py (wip/gen of the work's repo), a program of this workplace over the kit's print: Lean checks it.
namespace Go.Proofs.YtajlnffefoeppaaDoor.Qa
open Go.RowKit Go.Proofs.YtajlnffefoeppaaDoorW.PrintWords Go.Proofs.YtajlnffefoeppaaDoorW.PrintLast Go.Proofs.YtajlnffefoeppaaDoorW.PrintMore
attribute [local go_sem] max2_int min2_int max_two min_two max_three min_three max_four min_four   -- for this text's walks alone
set_option linter.unusedVariables false
set_option linter.unusedSimpArgs false
set_option maxHeartbeats 8000000
set_option maxRecDepth 100000

/-! ### strings_genSplit: function 84 -/
mutual
def strings_genSplit.j0 : Nat → ByteArray → ByteArray → Int → Int → Option (List ByteArray)
 | 0, _, _, _, _ => none
 | k + 1, x0, x1, x2, x3 => if 0 ≤ (mn x3 (wrap64 ((x0.size : Int) + 1))) then (if (mn x3 (wrap64 ((x0.size : Int) + 1)) : Int).toNat ≤ 17592186044416 then (strings_genSplit.l0 k x0 x1 x2 (wrap64 ((mn x3 (wrap64 ((x0.size : Int) + 1))) - 1)) (List.replicate (mn x3 (wrap64 ((x0.size : Int) + 1)) : Int).toNat (⟨#[]⟩ : ByteArray)) 0) else (none)) else (none)
def strings_genSplit.l0 : Nat → ByteArray → ByteArray → Int → Int → List ByteArray → Int → Option (List ByteArray)
 | 0, _, _, _, _, _, _ => none
 | k + 1, x0, x1, x2, x3, x9, x10 => if x10 < x3 then ((strings_Index.f x0 x1).bind fun t105 => (if t105 < 0 then (if 0 ≤ x10 then (if x10 < (x9.length : Int) then (if 0 ≤ (wrap64 (x10 + 1)) then (if (wrap64 (x10 + 1)) ≤ (x9.length : Int) then (some ((x9.set (x10 : Int).toNat x0).take ((wrap64 (x10 + 1)) : Int).toNat)) else (none)) else (none)) else (none)) else (none)) else (if 0 ≤ (wrap64 (t105 + x2)) then (if (wrap64 (t105 + x2)) ≤ (x0.size : Int) then (if 0 ≤ x10 then (if x10 < (x9.length : Int) then (if 0 ≤ (wrap64 (t105 + (x1.size : Int))) then (if (wrap64 (t105 + (x1.size : Int))) ≤ (x0.size : Int) then (strings_genSplit.l0 k (x0.extract ((wrap64 (t105 + (x1.size : Int))) : Int).toNat x0.size) x1 x2 x3 (x9.set (x10 : Int).toNat (x0.extract 0 ((wrap64 (t105 + x2)) : Int).toNat)) (wrap64 (x10 + 1))) else (none)) else (none)) else (none)) else (none)) else (none)) else (none)))) else (if 0 ≤ x10 then (if x10 < (x9.length : Int) then (if 0 ≤ (wrap64 (x10 + 1)) then (if (wrap64 (x10 + 1)) ≤ (x9.length : Int) then (some ((x9.set (x10 : Int).toNat x0).take ((wrap64 (x10 + 1)) : Int).toNat)) else (none)) else (none)) else (none)) else (none))
end
def strings_genSplit.f (k : Nat) (a0 : ByteArray) (a1 : ByteArray) (a2 : Int) (a3 : Int) : Option (List ByteArray) := if a3 = 0 then (some ([] : List ByteArray)) else (if a1.toList = ([] : List UInt8) then (none) else (if a3 < 0 then ((strings_Count.f a0 a1).bind fun t101 => (strings_genSplit.j0 k a0 a1 a2 (wrap64 (t101 + 1)))) else (strings_genSplit.j0 k a0 a1 a2 a3)))
theorem strings_genSplit.mono_l : ∀ k, (∀ y0 y1 y2 y3, LeO (strings_genSplit.j0 k y0 y1 y2 y3) (strings_genSplit.j0 (k + 1) y0 y1 y2 y3)) ∧ (∀ y0 y1 y2 y3 y4 y5, LeO (strings_genSplit.l0 k y0 y1 y2 y3 y4 y5) (strings_genSplit.l0 (k + 1) y0 y1 y2 y3 y4 y5))
 | 0 => ⟨fun _ _ _ _ r h => by simp [strings_genSplit.j0] at h, fun _ _ _ _ _ _ r h => by simp [strings_genSplit.l0] at h⟩
 | k + 1 => by
  obtain ⟨ih0, ih1⟩ := strings_genSplit.mono_l k
  refine ⟨?_, ?_⟩
  ·
   intro y0 y1 y2 y3
   unfold strings_genSplit.j0
   repeat' first
   | (with_reducible exact ih0 _ _ _ _)
   | (with_reducible exact ih1 _ _ _ _ _ _)
   | (with_reducible exact LeO.refl _)
   | (with_reducible exact LeO.none _)
   | (with_reducible refine LeO.ite ?_ ?_)
   | (with_reducible refine LeO.bind ?_ (fun _ => ?_))
   | exact ih0 _ _ _ _
   | exact ih1 _ _ _ _ _ _
   | exact LeO.none _
   | refine LeO.ite ?_ ?_
   | refine LeO.bind ?_ (fun _ => ?_)
  ·
   intro y0 y1 y2 y3 y4 y5
   unfold strings_genSplit.l0
   repeat' first
   | (with_reducible exact ih0 _ _ _ _)
   | (with_reducible exact ih1 _ _ _ _ _ _)
   | (with_reducible exact LeO.refl _)
   | (with_reducible exact LeO.none _)
   | (with_reducible refine LeO.ite ?_ ?_)
   | (with_reducible refine LeO.bind ?_ (fun _ => ?_))
   | exact ih0 _ _ _ _
   | exact ih1 _ _ _ _ _ _
   | exact LeO.none _
   | refine LeO.ite ?_ ?_
   | refine LeO.bind ?_ (fun _ => ?_)
theorem strings_genSplit.mono : ∀ a0 a1 a2 a3 k, LeO (strings_genSplit.f k a0 a1 a2 a3) (strings_genSplit.f (k + 1) a0 a1 a2 a3) := by
 intro a0 a1 a2 a3 k
 obtain ⟨ih0, ih1⟩ := strings_genSplit.mono_l k
 unfold strings_genSplit.f
 repeat' first
   | (with_reducible exact ih0 _ _ _ _)
   | (with_reducible exact ih1 _ _ _ _ _ _)
   | (with_reducible exact LeO.refl _)
   | (with_reducible exact LeO.none _)
   | (with_reducible refine LeO.ite ?_ ?_)
   | (with_reducible refine LeO.bind ?_ (fun _ => ?_))
   | exact ih0 _ _ _ _
   | exact ih1 _ _ _ _ _ _
   | exact LeO.none _
   | refine LeO.ite ?_ ?_
   | refine LeO.bind ?_ (fun _ => ?_)
theorem strings_genSplit.calls (k : Nat) (a0 : ByteArray) (a1 : ByteArray) (a2 : Int) (a3 : Int) (r : List ByteArray) (w : World) (h : strings_genSplit.f k a0 a1 a2 a3 = some r) :
  Calls Tryd.prog 84 #[.string a0, .string a1, .int .i64 a2, .int .i64 a3] w fun e w' => ∃ v0_ : Value, e = .returned (v0_) ∧ Kd.R Kd.string 9 w' w.heap.size (fun _ => True) v0_ r ∧ Below w.heap.size w w' := by
 have HB := aa (Below.refl w.heap.size w)
 have H : (if a3 = 0 then (some ([] : List ByteArray)) else (if a1.toList = ([] : List UInt8) then (none) else (if a3 < 0 then ((strings_Count.f a0 a1).bind fun t101 => (strings_genSplit.j0 k a0 a1 a2 (wrap64 (t101 + 1)))) else (strings_genSplit.j0 k a0 a1 a2 a3)))) = some r := h
 clear h
 by_cases c5 : a3 = 0
 ·
  rw [if_pos c5] at H
  have c5b0 : (a3 == 0) = true := beq_iff_eq.mpr c5
  have c5b1 : (a3 != 0) = false := bne_eq_false_iff_eq.mpr c5
  clear c5
  obtain rfl := Option.some.inj H
  go_enter Tryd.func84, Tryd.ntmps84
  go_wp2
  go_ret
  exact ⟨_, by first | rfl | (simp [errW_none, errW_some] <;> rfl) | (simp [*, errW_none, errW_some] <;> rfl), by first | exact Kd.R_nil _ _ _ _ _ | exact Kd.N_nil _ _ _ _ _ | exact Kd.V_nil _ _ _ _ _ | exact Kd.Q_nil _ _ _ _ _ | exact Kd.S_nil _ _ _ _ _, by repeat (first | (with_reducible first | exact HB.out | apply below_alloc | apply pw_below_drewN | apply below_drew1) | exact HB.out)⟩
 ·
  rw [if_neg c5] at H
  have c5b0 : (a3 == 0) = false := beq_eq_false_iff_ne.mpr c5
  have c5b1 : (a3 != 0) = true := bne_iff_ne.mpr c5
  by_cases c6 : a1.toList = ([] : List UInt8)
  ·
   rw [if_pos c6] at H
   exact absurd H (by simp)
  ·
   rw [if_neg c6] at H
   have c6b0 : (a1.toList == ([] : List UInt8)) = false := beq_eq_false_iff_ne.mpr c6
   have c6b1 : (a1.toList != ([] : List UInt8)) = true := bne_iff_ne.mpr c6
   have HC7 := aa H
   clear H
   go_enter Tryd.func84, Tryd.ntmps84
   go_upto_if 20 with (fail)
   go_cut [3] (fun v3 wc => ∃ (kq : Nat) (x3_6 : Int), v3 = .int .i64 x3_6 ∧ Aside0 (strings_genSplit.j0 kq a0 a1 a2 x3_6 = some r) ∧ Aside0 (kq ≤ k) ∧ Aside0 (Below w.heap.size w wc))
   case first =>
    have H := HC7.out
    clear HC7
    by_cases c8 : a3 < 0
    ·
     rw [if_pos c8] at H
     have c8b0 : decide (a3 < 0) = true := decide_eq_true c8
     clear c8
     (first | rw [c8b0] | (simp only [i64_w, i32_w]; rw [c8b0]) | (simp only [c8b2, Bool.not_false, Bool.not_true]) | skip)
     replace H := Option.bind_eq_some_iff.mp H
     obtain ⟨t101, A90, H⟩ := H
     replace H : (strings_genSplit.j0 k a0 a1 a2 (wrap64 (t101 + 1))) = some r := H
     have A9 := aa A90
     clear A90
     have H' := aa H
     clear H
     go_wp2_with (first | ((with_reducible refine gate_callee (f := 69) rfl ?_); refine goesL_ (some 23) rfl rfl Tryd.func69 (by kernel_rfl) rfl #[.string a0, .string a1] rfl zjnmae ?_; (with_reducible refine (strings_Count.calls a0 a1 t101 _ A9.out).mono ?_); rintro e w' ⟨rfl, ⟨nd, rfl⟩⟩; refine ⟨_, rfl, ?_⟩))
     go_meet
     case rel => exact ⟨_, (wrap64 (t101 + 1)), zagbkp, H', ⟨by first | omega | exact Nat.le_refl _⟩, ⟨by repeat (first | (with_reducible first | exact HB.out | apply below_alloc | apply pw_below_drewN | apply below_drew1) | exact HB.out)⟩⟩
    ·
     rw [if_neg c8] at H
     have c8b0 : decide (a3 < 0) = false := decide_eq_false c8
     clear c8
     (first | rw [c8b0] | (simp only [i64_w, i32_w]; rw [c8b0]) | (simp only [c8b2, Bool.not_false, Bool.not_true]) | skip)
     have H' := aa H
     clear H
     go_wp2
     go_meet
     case rel => exact ⟨_, (a3), zagbkp, H', ⟨by first | omega | exact Nat.le_refl _⟩, ⟨by repeat (first | (with_reducible first | exact HB.out | apply below_alloc | apply pw_below_drewN | apply below_drew1) | exact HB.out)⟩⟩
   case rest =>
    clear HC7
    try clear p2
    try clear c5
    try clear c5b0
    try clear c5b1
    try clear c6
    try clear c6b0
    try clear c6b1
    try clear p6
    try clear c8
    try clear c8b0
    try clear c8b2
    obtain ⟨kq, x3_6, rfl, HA, HJ6, HB⟩ := hcut
    cases kq with
    | zero => exact absurd HA.out (by simp [strings_genSplit.j0])
    | succ kj6 =>
     have H := HA.out
     clear HA
     simp only [strings_genSplit.j0] at H
     obtain ⟨ji10, hji10⟩ : ∃ j_ : Int, (mn x3_6 (wrap64 ((a0.size : Int) + 1))) = j_ := ⟨_, rfl⟩
     replace H : (if 0 ≤ (ji10) then (if (ji10 : Int).toNat ≤ 17592186044416 then (strings_genSplit.l0 kj6 a0 a1 a2 (wrap64 ((ji10) - 1)) (List.replicate (ji10 : Int).toNat (⟨#[]⟩ : ByteArray)) 0) else (none)) else (none)) = some r := by first | (rw [hji10] at H; exact H) | (simp only [hji10] at H ⊢; exact H)
     have hji10_ : (if (wrap64 ((a0.size : Int) + 1)) < x3_6 then (wrap64 ((a0.size : Int) + 1)) else x3_6) = ji10 := hji10
     by_cases c11 : 0 ≤ (ji10)
     ·
      rw [if_pos c11] at H
      have c11b0 := eq_true c11
      have c11b1 : decide (0 ≤ (ji10)) = true := decide_eq_true c11
      clear c11
      by_cases c12 : (ji10 : Int).toNat ≤ 17592186044416
      ·
       rw [if_pos c12] at H
       have c12b0 := eq_true c12
       have c12b1 : decide ((ji10 : Int).toNat ≤ 17592186044416) = true := decide_eq_true c12
       clear c12
       obtain ⟨y102, hy102⟩ : ∃ y_ : List ByteArray, y_ = (List.replicate (ji10 : Int).toNat (⟨#[]⟩ : ByteArray)) := ⟨_, rfl⟩
       replace H : (strings_genSplit.l0 kj6 a0 a1 a2 (wrap64 ((ji10) - 1)) y102 0) = some r := by first | (rw [hy102]; with_reducible exact H) | (have H2_ := (Option.bind_some _ _).symm.trans H; rw [hy102]; with_reducible exact H2_) | (have H2_ := (Option.bind_some _ _).symm.trans H; with_reducible exact H2_) | with_reducible exact H | (rw [hy102]; exact H) | exact H
       have Ny102 := aa hy102
       clear hy102
       have H' := aa H
       clear H
       go_wp2_with (first | ((with_reducible refine gate_dst (N := 31) rfl ?_); refine Kd.R_make Kd.string _ 9 rfl (N := 31) rfl 81 _ _ rfl ji10 rfl rfl Tryd.underlying81 (.string ⟨#[]⟩) 16 info9 rfl (by decide) (by omega) (⟨#[]⟩ : ByteArray) (ok := fun _ => True) (okp := fun _ => True) rfl (fun _ hk => hk) trivial (of_decide_eq_true zgglam) (Nat.le_trans (Nat.mul_le_mul_right _ (of_decide_eq_true zgglam : ji10.toNat ≤ 17592186044416)) (by omega)) (Below.refl _ _) (Nat.le_refl _) ?_; intro v103 w13 ho14 hb hg_ hnew_; clear hg_ hnew_; (first | rw [← Ny102.out] at ho14 | (simp only [Int.reduceToNat] at ho14; rw [← Ny102.out] at ho14)); have n0_ := aa (Kd.R_lower ho14 (below_size zjjbob)); have n1_ := aa (below_step zjjbob hb); clear HB; have HO104 := n0_; have HB := n1_; clear n0_ n1_; clear hb ho14))
       go_loopg [0, 10] kj6 (fun kq v0 v10 w' => ∃ (x0_2 : ByteArray) (x9_2 : List ByteArray) (x10_2 : Int), v0 = .string x0_2 ∧ v10 = .int .i64 x10_2 ∧ Aside0 (strings_genSplit.l0 kq x0_2 a1 a2 (wrap64 ((ji10) - 1)) x9_2 x10_2 = some r) ∧ Aside0 (kq ≤ kj6) ∧ Aside0 (Kd.R Kd.string 9 w' w.heap.size (fun _ => True) v103 x9_2) ∧ Aside0 (Below w.heap.size w w'))
       case atStart => exact ⟨(a0), (y102), (0), zagbkp, zagbkp, H', ⟨Nat.le_refl _⟩, ⟨by (with_reducible repeat (first | apply Kd.R_alloc | apply Kd.R_drewN | apply Kd.R_drew)); exact HO104.out⟩, ⟨by repeat (first | (with_reducible first | exact HB.out | apply below_alloc | apply pw_below_drewN | apply below_drew1) | exact HB.out)⟩⟩
       case round =>
        clear H'
        try clear c1
        try clear p2
        try clear c5
        try clear c5b0
        try clear c5b1
        try clear c6
        try clear c6b0
        try clear c6b1
        try clear p6
        try clear c8
        try clear c8b0
        try clear c8b2
        try clear c11
        try clear c11b0
        try clear c11b1
        try clear c12
        try clear c12b0
        try clear c12b1
        try clear p2
        try clear p6
        obtain ⟨x0_2, x9_2, x10_2, rfl, rfl, HA, HK2, HO_9, HB⟩ := hrel
        cases gk with
        | zero => exact absurd HA.out (by simp [strings_genSplit.l0])
        | succ k2 =>
         have H := HA.out
         clear HA
         simp only [strings_genSplit.l0] at H
         by_cases c15 : x10_2 < (wrap64 ((ji10) - 1))
         ·
          rw [if_pos c15] at H
          have c15b0 : decide (x10_2 < (wrap64 ((ji10) - 1))) = true := decide_eq_true c15
          clear c15
          replace H := Option.bind_eq_some_iff.mp H
          obtain ⟨t105, A160, H⟩ := H
          replace H : (if t105 < 0 then (if 0 ≤ x10_2 then (if x10_2 < (x9_2.length : Int) then (if 0 ≤ (wrap64 (x10_2 + 1)) then (if (wrap64 (x10_2 + 1)) ≤ (x9_2.length : Int) then (some ((x9_2.set (x10_2 : Int).toNat x0_2).take ((wrap64 (x10_2 + 1)) : Int).toNat)) else (none)) else (none)) else (none)) else (none)) else (if 0 ≤ (wrap64 (t105 + a2)) then (if (wrap64 (t105 + a2)) ≤ (x0_2.size : Int) then (if 0 ≤ x10_2 then (if x10_2 < (x9_2.length : Int) then (if 0 ≤ (wrap64 (t105 + (a1.size : Int))) then (if (wrap64 (t105 + (a1.size : Int))) ≤ (x0_2.size : Int) then (strings_genSplit.l0 k2 (x0_2.extract ((wrap64 (t105 + (a1.size : Int))) : Int).toNat x0_2.size) a1 a2 (wrap64 ((ji10) - 1)) (x9_2.set (x10_2 : Int).toNat (x0_2.extract 0 ((wrap64 (t105 + a2)) : Int).toNat)) (wrap64 (x10_2 + 1))) else (none)) else (none)) else (none)) else (none)) else (none)) else (none))) = some r := H
          have A16 := aa A160
          clear A160
          by_cases c17 : t105 < 0
          ·
           rw [if_pos c17] at H
           have c17b0 : decide (t105 < 0) = true := decide_eq_true c17
           clear c17
           by_cases c18 : 0 ≤ x10_2
           ·
            rw [if_pos c18] at H
            have c18b0 : decide (0 ≤ x10_2) = true := decide_eq_true c18
            clear c18
            by_cases c19 : x10_2 < (x9_2.length : Int)
            ·
             rw [if_pos c19] at H
             have c19b0 : decide (x10_2 < (x9_2.length : Int)) = true := decide_eq_true c19
             clear c19
             obtain ⟨y106, hy106⟩ : ∃ y_ : List ByteArray, y_ = (x9_2.set (x10_2 : Int).toNat x0_2) := ⟨_, rfl⟩
             replace H : (if 0 ≤ (wrap64 (x10_2 + 1)) then (if (wrap64 (x10_2 + 1)) ≤ (x9_2.length : Int) then (some (y106.take ((wrap64 (x10_2 + 1)) : Int).toNat)) else (none)) else (none)) = some r := by first | (rw [hy106]; with_reducible exact H) | (have H2_ := (Option.bind_some _ _).symm.trans H; rw [hy106]; with_reducible exact H2_) | (have H2_ := (Option.bind_some _ _).symm.trans H; with_reducible exact H2_) | with_reducible exact H | (rw [hy106]; exact H) | exact H
             have Ny106 := aa hy106
             clear hy106
             obtain ⟨ji21, hji21⟩ : ∃ j_ : Int, (wrap64 (x10_2 + 1)) = j_ := ⟨_, rfl⟩
             replace H : (if 0 ≤ (ji21) then (if (ji21) ≤ (x9_2.length : Int) then (some (y106.take ((ji21) : Int).toNat)) else (none)) else (none)) = some r := by first | (rw [hji21] at H; exact H) | (simp only [hji21] at H ⊢; exact H)
             (try rw [hji21] at A16)
             have hji21w : (IntKind.i64.wrap (x10_2 + 1)) = ji21 := (i64_w _).trans hji21
             by_cases c22 : 0 ≤ (ji21)
             ·
              rw [if_pos c22] at H
              have c22b0 := eq_true c22
              have c22b1 : decide (0 ≤ (ji21)) = true := decide_eq_true c22
              clear c22
              by_cases c23 : (ji21) ≤ (x9_2.length : Int)
              ·
               rw [if_pos c23] at H
               have c23b0 := eq_true c23
               have c23b1 : decide ((ji21) ≤ (x9_2.length : Int)) = true := decide_eq_true c23
               clear c23
               obtain ⟨y107, hy107⟩ : ∃ y_ : List ByteArray, y_ = (y106.take ((ji21) : Int).toNat) := ⟨_, rfl⟩
               replace H : (some y107) = some r := by first | (rw [hy107]; with_reducible exact H) | (have H2_ := (Option.bind_some _ _).symm.trans H; rw [hy107]; with_reducible exact H2_) | (have H2_ := (Option.bind_some _ _).symm.trans H; with_reducible exact H2_) | with_reducible exact H | (rw [hy107]; exact H) | exact H
               have Ny107 := aa hy107
               clear hy107
               obtain rfl := Option.some.inj H
               go_wp2_with (first | ((with_reducible refine gate_callee (f := 83) rfl ?_); refine goesL_ (some 39) rfl rfl Tryd.func83 (by kernel_rfl) rfl #[.string x0_2, .string a1] rfl zjnmae ?_; (with_reducible refine (strings_Index.calls x0_2 a1 t105 _ A16.out).mono ?_); rintro e w' ⟨rfl, ⟨nd, rfl⟩⟩; refine ⟨_, rfl, ?_⟩; (try (rw [drewN_self wr]; generalize hq_ : World.drewN wr _ = wr; have n0_ : Aside0 (Kd.R Kd.string 9 wr w.heap.size (fun _ => True) v103 x9_2) := ⟨by rw [← hq_]; exact (zcaken HO_9.out)⟩; have n1_ : Aside0 (Below w.heap.size w wr) := ⟨by rw [← hq_]; exact zjjbob⟩; clear HO_9 HB hq_; have HO_9 := n0_; have HB := n1_; clear n0_ n1_)); have p20 : 0 ≤ (x10_2 : Int) := of_decide_eq_true zgglam; have q20 : (x10_2 : Int) < ((x9_2.length : Int) : Int) := of_decide_eq_true zgglam; obtain ⟨go20, co20, eo20, gb20, gl20, cl20, HG20⟩ := Kd.R_form HO_9.out (by omega); (first | cases eo20 | (injection eo20 with ea_ en_ ec_; (first | subst ea_ | (injection ea_ with ea_; subst ea_)); subst ec_; clear en_)); have GB20 := aa gb20; have GG20 := aa HG20; clear gb20 gl20 HG20; obtain ⟨hx20_0, hf20_0⟩ := Kd.R_celln (⟨#[]⟩ : ByteArray) HO_9.out (x10_2 : Int) p20 q20; replace p20 := eq_true p20; replace q20 := eq_true q20; obtain ⟨hy24_, hz24_⟩ := Kd.R_celln (⟨#[]⟩ : ByteArray) HO_9.out (x10_2 : Int) (of_decide_eq_true zgglam) (of_decide_eq_true zgglam); have HP24 := Kd.R_putg HO_9.out (x10_2 : Int) x0_2) | ((with_reducible refine gate_store (t := 9) (p := 61) rfl ?_); refine store_event (t := 9) (p := 61) (v := ?vo_w25) (w1 := (wr.setCell ⟨go20, (x10_2 : Int).toNat, none⟩ (.string x0_2))) ?hg ?ho ?hn ?hr ?_; (case ho => rfl); (case hg => rfl); (case hn => rfl); (case hr => exact zhlgcp); intro w25 hw; have hg : wr.grownBy w25 (some go20) := (by rw [hw]; exact HP24.2); have hp_ : Kd.R Kd.string 9 w25 w.heap.size (fun _ => True) (.slice (some ⟨go20, 0, none⟩) x9_2.length co20) y106 := (by rw [hw, Ny106.out]; exact HP24.1); clear HP24; have n0_ := aa (hp_); have n1_ := aa ((by rw [hw]; exact below_set (HB.out) GB20.out : Below w.heap.size w w25)); clear HO_9; clear HB; have HO_9 := n0_; have HB := n1_; clear n0_ n1_; clear hg hw hp_; have q26 : ((ji21) : Int) ≤ ((x9_2.length : Int) : Int) := of_decide_eq_true zgglam; obtain ⟨i026, hi026, _, hsz26, _⟩ := info_parts info9; have hcut26 := cut_to (P := Tryd.prog) 81 9 .i64 Tryd.underlying81 hi026 (some ⟨go20, 0, none⟩) x9_2.length co20 (ji21) (of_decide_eq_true zgglam) q26 (Kd.R_reads' HO_9.out).2.1; have hr26 := Kd.R_take (m := ((ji21) : Int).toNat) HO_9.out (by omega); have hy26 : y107.length = ((ji21) : Int).toNat := (by rw [Ny107.out, List.length_take]; omega); rw [← Ny107.out] at hr26; rw [← hy26] at hr26 hcut26; clear hy26 hi026 hsz26 HO_9; have HO109 := aa hr26; clear hr26; replace q26 := eq_true q26))
               ·
                go_ret
                have hq_ : Kd.R Kd.string 9 (wr.setCell ⟨go20, (x10_2 : Int).toNat, none⟩ (.string x0_2)) w.heap.size (fun _ => True) (.slice (some ⟨go20, 0, none⟩) x9_2.length co20) y106 := by rw [Ny106.out]; exact HP24.1
                have q_ : (ji21 : Int) ≤ (x9_2.length : Int) := of_decide_eq_true (by assumption)
                have hr_ := Kd.R_take (m := ((ji21) : Int).toNat) hq_ (by rw [Ny106.out, List.length_set]; omega)
                rw [← Ny107.out] at hr_
                exact ⟨_, rfl, hr_, below_set HB.out GB20.out⟩
               ·
                exfalso
                have q_ : (ji21 : Int) ≤ (x9_2.length : Int) := of_decide_eq_true (by assumption)
                have := (Kd.R_reads' HO_9.out).2.1
                omega
              ·
               rw [if_neg c23] at H
               exact absurd H (by simp)
             ·
              rw [if_neg c22] at H
              exact absurd H (by simp)
            ·
             rw [if_neg c19] at H
             exact absurd H (by simp)
           ·
            rw [if_neg c18] at H
            exact absurd H (by simp)
          ·
           rw [if_neg c17] at H
           have c17b0 : decide (t105 < 0) = false := decide_eq_false c17
           clear c17
           obtain ⟨ji27, hji27⟩ : ∃ j_ : Int, (wrap64 (t105 + a2)) = j_ := ⟨_, rfl⟩
           replace H : (if 0 ≤ (ji27) then (if (ji27) ≤ (x0_2.size : Int) then (if 0 ≤ x10_2 then (if x10_2 < (x9_2.length : Int) then (if 0 ≤ (wrap64 (t105 + (a1.size : Int))) then (if (wrap64 (t105 + (a1.size : Int))) ≤ (x0_2.size : Int) then (strings_genSplit.l0 k2 (x0_2.extract ((wrap64 (t105 + (a1.size : Int))) : Int).toNat x0_2.size) a1 a2 (wrap64 ((ji10) - 1)) (x9_2.set (x10_2 : Int).toNat (x0_2.extract 0 ((ji27) : Int).toNat)) (wrap64 (x10_2 + 1))) else (none)) else (none)) else (none)) else (none)) else (none)) else (none)) = some r := by first | (rw [hji27] at H; exact H) | (simp only [hji27] at H ⊢; exact H)
           (try rw [hji27] at A16)
           have hji27w : (IntKind.i64.wrap (t105 + a2)) = ji27 := (i64_w _).trans hji27
           by_cases c28 : 0 ≤ (ji27)
           ·
            rw [if_pos c28] at H
            have c28b0 := eq_true c28
            have c28b1 : decide (0 ≤ (ji27)) = true := decide_eq_true c28
            clear c28
            by_cases c29 : (ji27) ≤ (x0_2.size : Int)
            ·
             rw [if_pos c29] at H
             have c29b0 := eq_true c29
             have c29b1 : decide ((ji27) ≤ (x0_2.size : Int)) = true := decide_eq_true c29
             clear c29
             by_cases c30 : 0 ≤ x10_2
             ·
              rw [if_pos c30] at H
              have c30b0 : decide (0 ≤ x10_2) = true := decide_eq_true c30
              clear c30
              by_cases c31 : x10_2 < (x9_2.length : Int)
              ·
               rw [if_pos c31] at H
               have c31b0 : decide (x10_2 < (x9_2.length : Int)) = true := decide_eq_true c31
               clear c31
               obtain ⟨y110, hy110⟩ : ∃ y_ : List ByteArray, y_ = (x9_2.set (x10_2 : Int).toNat (x0_2.extract 0 ((ji27) : Int).toNat)) := ⟨_, rfl⟩
               replace H : (if 0 ≤ (wrap64 (t105 + (a1.size : Int))) then (if (wrap64 (t105 + (a1.size : Int))) ≤ (x0_2.size : Int) then (strings_genSplit.l0 k2 (x0_2.extract ((wrap64 (t105 + (a1.size : Int))) : Int).toNat x0_2.size) a1 a2 (wrap64 ((ji10) - 1)) y110 (wrap64 (x10_2 + 1))) else (none)) else (none)) = some r := by first | (rw [hy110]; with_reducible exact H) | (have H2_ := (Option.bind_some _ _).symm.trans H; rw [hy110]; with_reducible exact H2_) | (have H2_ := (Option.bind_some _ _).symm.trans H; with_reducible exact H2_) | with_reducible exact H | (rw [hy110]; exact H) | exact H
               have Ny110 := aa hy110
               clear hy110
               obtain ⟨ji33, hji33⟩ : ∃ j_ : Int, (wrap64 (t105 + (a1.size : Int))) = j_ := ⟨_, rfl⟩
               replace H : (if 0 ≤ (ji33) then (if (ji33) ≤ (x0_2.size : Int) then (strings_genSplit.l0 k2 (x0_2.extract ((ji33) : Int).toNat x0_2.size) a1 a2 (wrap64 ((ji10) - 1)) y110 (wrap64 (x10_2 + 1))) else (none)) else (none)) = some r := by first | (rw [hji33] at H; exact H) | (simp only [hji33] at H ⊢; exact H)
               (try rw [hji33] at A16)
               have hji33w : (IntKind.i64.wrap (t105 + (a1.size : Int))) = ji33 := (i64_w _).trans hji33
               by_cases c34 : 0 ≤ (ji33)
               ·
                rw [if_pos c34] at H
                have c34b0 := eq_true c34
                have c34b1 : decide (0 ≤ (ji33)) = true := decide_eq_true c34
                clear c34
                by_cases c35 : (ji33) ≤ (x0_2.size : Int)
                ·
                 rw [if_pos c35] at H
                 have c35b0 := eq_true c35
                 have c35b1 : decide ((ji33) ≤ (x0_2.size : Int)) = true := decide_eq_true c35
                 clear c35
                 have H' := aa H
                 clear H
                 go_wp2_with (first | ((with_reducible refine gate_callee (f := 83) rfl ?_); refine goesL_ (some 39) rfl rfl Tryd.func83 (by kernel_rfl) rfl #[.string x0_2, .string a1] rfl zjnmae ?_; (with_reducible refine (strings_Index.calls x0_2 a1 t105 _ A16.out).mono ?_); rintro e w' ⟨rfl, ⟨nd, rfl⟩⟩; refine ⟨_, rfl, ?_⟩; (try (rw [drewN_self wr]; generalize hq_ : World.drewN wr _ = wr; have n0_ : Aside0 (Kd.R Kd.string 9 wr w.heap.size (fun _ => True) v103 x9_2) := ⟨by rw [← hq_]; exact (zcaken HO_9.out)⟩; have n1_ : Aside0 (Below w.heap.size w wr) := ⟨by rw [← hq_]; exact zjjbob⟩; clear HO_9 HB hq_; have HO_9 := n0_; have HB := n1_; clear n0_ n1_)); have p32 : 0 ≤ (x10_2 : Int) := of_decide_eq_true zgglam; have q32 : (x10_2 : Int) < ((x9_2.length : Int) : Int) := of_decide_eq_true zgglam; obtain ⟨go32, co32, eo32, gb32, gl32, cl32, HG32⟩ := Kd.R_form HO_9.out (by omega); (first | cases eo32 | (injection eo32 with ea_ en_ ec_; (first | subst ea_ | (injection ea_ with ea_; subst ea_)); subst ec_; clear en_)); have GB32 := aa gb32; have GG32 := aa HG32; clear gb32 gl32 HG32; obtain ⟨hx32_0, hf32_0⟩ := Kd.R_celln (⟨#[]⟩ : ByteArray) HO_9.out (x10_2 : Int) p32 q32; replace p32 := eq_true p32; replace q32 := eq_true q32; obtain ⟨hy36_, hz36_⟩ := Kd.R_celln (⟨#[]⟩ : ByteArray) HO_9.out (x10_2 : Int) (of_decide_eq_true zgglam) (of_decide_eq_true zgglam); have HP36 := Kd.R_putg HO_9.out (x10_2 : Int) (x0_2.extract 0 ((ji27) : Int).toNat)) | ((with_reducible refine gate_store (t := 9) (p := 49) rfl ?_); refine store_event (t := 9) (p := 49) (v := ?vo_w37) (w1 := (wr.setCell ⟨go32, (x10_2 : Int).toNat, none⟩ (.string (x0_2.extract 0 ((ji27) : Int).toNat)))) ?hg ?ho ?hn ?hr ?_; (case ho => rfl); (case hg => rfl); (case hn => rfl); (case hr => exact zhlgcp); intro w37 hw; have hg : wr.grownBy w37 (some go32) := (by rw [hw]; exact HP36.2); have hp_ : Kd.R Kd.string 9 w37 w.heap.size (fun _ => True) (.slice (some ⟨go32, 0, none⟩) x9_2.length co32) y110 := (by rw [hw, Ny110.out]; exact HP36.1); clear HP36; have n0_ := aa (hp_); have n1_ := aa ((by rw [hw]; exact below_set (HB.out) GB32.out : Below w.heap.size w w37)); clear HO_9; clear HB; have HO_9 := n0_; have HB := n1_; clear n0_ n1_; clear hg hw hp_))
                 go_roundg k2
                 case measure => have := HJ6.out; have := HK2.out; omega
                 case rel => exact ⟨(x0_2.extract ((ji33) : Int).toNat x0_2.size), (y110), (wrap64 (x10_2 + 1)), (by first | rfl | (simp; done) | (simp only [← hji33] <;> (first | rfl | simp)) | (simp [*]; done)), zagbkp, H', ⟨by have := HJ6.out; have := HK2.out; omega⟩, ⟨by (with_reducible repeat (first | apply Kd.R_alloc | apply Kd.R_drewN | apply Kd.R_drew)); exact HO_9.out⟩, ⟨by repeat (first | (with_reducible first | exact HB.out | apply below_alloc | apply pw_below_drewN | apply below_drew1) | exact HB.out)⟩⟩
                ·
                 rw [if_neg c35] at H
                 exact absurd H (by simp)
               ·
                rw [if_neg c34] at H
                exact absurd H (by simp)
              ·
               rw [if_neg c31] at H
               exact absurd H (by simp)
             ·
              rw [if_neg c30] at H
              exact absurd H (by simp)
            ·
             rw [if_neg c29] at H
             exact absurd H (by simp)
           ·
            rw [if_neg c28] at H
            exact absurd H (by simp)
         ·
          rw [if_neg c15] at H
          have c15b0 : decide (x10_2 < (wrap64 ((ji10) - 1))) = false := decide_eq_false c15
          clear c15
          by_cases c38 : 0 ≤ x10_2
          ·
           rw [if_pos c38] at H
           have c38b0 : decide (0 ≤ x10_2) = true := decide_eq_true c38
           clear c38
           by_cases c39 : x10_2 < (x9_2.length : Int)
           ·
            rw [if_pos c39] at H
            have c39b0 : decide (x10_2 < (x9_2.length : Int)) = true := decide_eq_true c39
            clear c39
            obtain ⟨y111, hy111⟩ : ∃ y_ : List ByteArray, y_ = (x9_2.set (x10_2 : Int).toNat x0_2) := ⟨_, rfl⟩
            replace H : (if 0 ≤ (wrap64 (x10_2 + 1)) then (if (wrap64 (x10_2 + 1)) ≤ (x9_2.length : Int) then (some (y111.take ((wrap64 (x10_2 + 1)) : Int).toNat)) else (none)) else (none)) = some r := by first | (rw [hy111]; with_reducible exact H) | (have H2_ := (Option.bind_some _ _).symm.trans H; rw [hy111]; with_reducible exact H2_) | (have H2_ := (Option.bind_some _ _).symm.trans H; with_reducible exact H2_) | with_reducible exact H | (rw [hy111]; exact H) | exact H
            have Ny111 := aa hy111
            clear hy111
            obtain ⟨ji41, hji41⟩ : ∃ j_ : Int, (wrap64 (x10_2 + 1)) = j_ := ⟨_, rfl⟩
            replace H : (if 0 ≤ (ji41) then (if (ji41) ≤ (x9_2.length : Int) then (some (y111.take ((ji41) : Int).toNat)) else (none)) else (none)) = some r := by first | (rw [hji41] at H; exact H) | (simp only [hji41] at H ⊢; exact H)
            have hji41w : (IntKind.i64.wrap (x10_2 + 1)) = ji41 := (i64_w _).trans hji41
            by_cases c42 : 0 ≤ (ji41)
            ·
             rw [if_pos c42] at H
             have c42b0 := eq_true c42
             have c42b1 : decide (0 ≤ (ji41)) = true := decide_eq_true c42
             clear c42
             by_cases c43 : (ji41) ≤ (x9_2.length : Int)
             ·
              rw [if_pos c43] at H
              have c43b0 := eq_true c43
              have c43b1 : decide ((ji41) ≤ (x9_2.length : Int)) = true := decide_eq_true c43
              clear c43
              obtain ⟨y112, hy112⟩ : ∃ y_ : List ByteArray, y_ = (y111.take ((ji41) : Int).toNat) := ⟨_, rfl⟩
              replace H : (some y112) = some r := by first | (rw [hy112]; with_reducible exact H) | (have H2_ := (Option.bind_some _ _).symm.trans H; rw [hy112]; with_reducible exact H2_) | (have H2_ := (Option.bind_some _ _).symm.trans H; with_reducible exact H2_) | with_reducible exact H | (rw [hy112]; exact H) | exact H
              have Ny112 := aa hy112
              clear hy112
              obtain rfl := Option.some.inj H
              have p40 : 0 ≤ (x10_2 : Int) := of_decide_eq_true zgglam
              have q40 : (x10_2 : Int) < ((x9_2.length : Int) : Int) := of_decide_eq_true zgglam
              obtain ⟨go40, co40, eo40, gb40, gl40, cl40, HG40⟩ := Kd.R_form HO_9.out (by omega)
              (first | cases eo40 | (injection eo40 with ea_ en_ ec_; (first | subst ea_ | (injection ea_ with ea_; subst ea_)); subst ec_; clear en_))
              have GB40 := aa gb40
              have GG40 := aa HG40
              clear gb40 gl40 HG40
              obtain ⟨hx40_0, hf40_0⟩ := Kd.R_celln (⟨#[]⟩ : ByteArray) HO_9.out (x10_2 : Int) p40 q40
              replace p40 := eq_true p40
              replace q40 := eq_true q40
              have HP44 := Kd.R_putg HO_9.out (x10_2 : Int) x0_2
              go_wp2_with (first | ((with_reducible refine gate_store (t := 9) (p := 61) rfl ?_); refine store_event (t := 9) (p := 61) (v := ?vo_w45) (w1 := (wr.setCell ⟨go40, (x10_2 : Int).toNat, none⟩ (.string x0_2))) ?hg ?ho ?hn ?hr ?_; (case ho => rfl); (case hg => rfl); (case hn => rfl); (case hr => exact zhlgcp); intro w45 hw; have hg : wr.grownBy w45 (some go40) := (by rw [hw]; exact HP44.2); have hp_ : Kd.R Kd.string 9 w45 w.heap.size (fun _ => True) (.slice (some ⟨go40, 0, none⟩) x9_2.length co40) y111 := (by rw [hw, Ny111.out]; exact HP44.1); clear HP44; have n0_ := aa (hp_); have n1_ := aa ((by rw [hw]; exact below_set (HB.out) GB40.out : Below w.heap.size w w45)); clear HO_9; clear HB; have HO_9 := n0_; have HB := n1_; clear n0_ n1_; clear hg hw hp_; have q46 : ((ji41) : Int) ≤ ((x9_2.length : Int) : Int) := of_decide_eq_true zgglam; obtain ⟨i046, hi046, _, hsz46, _⟩ := info_parts info9; have hcut46 := cut_to (P := Tryd.prog) 81 9 .i64 Tryd.underlying81 hi046 (some ⟨go40, 0, none⟩) x9_2.length co40 (ji41) (of_decide_eq_true zgglam) q46 (Kd.R_reads' HO_9.out).2.1; have hr46 := Kd.R_take (m := ((ji41) : Int).toNat) HO_9.out (by omega); have hy46 : y112.length = ((ji41) : Int).toNat := (by rw [Ny112.out, List.length_take]; omega); rw [← Ny112.out] at hr46; rw [← hy46] at hr46 hcut46; clear hy46 hi046 hsz46 HO_9; have HO114 := aa hr46; clear hr46; replace q46 := eq_true q46))
              ·
               go_ret
               have hq_ : Kd.R Kd.string 9 (wr.setCell ⟨go40, (x10_2 : Int).toNat, none⟩ (.string x0_2)) w.heap.size (fun _ => True) (.slice (some ⟨go40, 0, none⟩) x9_2.length co40) y111 := by rw [Ny111.out]; exact HP44.1
               have q_ : (ji41 : Int) ≤ (x9_2.length : Int) := of_decide_eq_true (by assumption)
               have hr_ := Kd.R_take (m := ((ji41) : Int).toNat) hq_ (by rw [Ny111.out, List.length_set]; omega)
               rw [← Ny112.out] at hr_
               exact ⟨_, rfl, hr_, below_set HB.out GB40.out⟩
              ·
               exfalso
               have q_ : (ji41 : Int) ≤ (x9_2.length : Int) := of_decide_eq_true (by assumption)
               have := (Kd.R_reads' HO_9.out).2.1
               omega
             ·
              rw [if_neg c43] at H
              exact absurd H (by simp)
            ·
             rw [if_neg c42] at H
             exact absurd H (by simp)
           ·
            rw [if_neg c39] at H
            exact absurd H (by simp)
          ·
           rw [if_neg c38] at H
           exact absurd H (by simp)
      ·
       rw [if_neg c12] at H
       exact absurd H (by simp)
     ·
      rw [if_neg c11] at H
      exact absurd H (by simp)

end Go.Proofs.YtajlnffefoeppaaDoor.Qa

-- By gp.py (wip/gen of the work's repo), a program of this workplace over the kit's print: Lean checks it.
namespace Go.Proofs.YtajlnffefoeppaaDoor.Qa
open Go.RowKit Go.Proofs.YtajlnffefoeppaaDoorW.PrintWords Go.Proofs.YtajlnffefoeppaaDoorW.PrintLast Go.Proofs.YtajlnffefoeppaaDoorW.PrintMore
attribute [local go_sem] max2_int min2_int max_two min_two max_three min_three max_four min_four   -- for this text's walks alone
set_option linter.unusedVariables false
set_option linter.unusedSimpArgs false
set_option maxHeartbeats 8000000
set_option maxRecDepth 100000

/-! ### strings_Split: function 70 -/
def strings_Split.f (k : Nat) (a0 : ByteArray) (a1 : ByteArray) : Option (List ByteArray) := (strings_genSplit.f k a0 a1 0 (-1)).bind fun t101 => (some t101)
theorem strings_Split.mono : ∀ a0 a1 k, LeO (strings_Split.f k a0 a1) (strings_Split.f (k + 1) a0 a1) := by
 intro a0 a1 k
 unfold strings_Split.f
 repeat' first
   | (with_reducible exact strings_genSplit.mono _ _ _ _ _)
   | (with_reducible exact LeO.refl _)
   | (with_reducible exact LeO.none _)
   | (with_reducible refine LeO.ite ?_ ?_)
   | (with_reducible refine LeO.bind ?_ (fun _ => ?_))
   | exact strings_genSplit.mono _ _ _ _ _
   | exact LeO.none _
   | refine LeO.ite ?_ ?_
   | refine LeO.bind ?_ (fun _ => ?_)
theorem strings_Split.calls (k : Nat) (a0 : ByteArray) (a1 : ByteArray) (r : List ByteArray) (w : World) (h : strings_Split.f k a0 a1 = some r) :
  Calls Tryd.prog 70 #[.string a0, .string a1] w fun e w' => ∃ v0_ : Value, e = .returned (v0_) ∧ Kd.R Kd.string 9 w' w.heap.size (fun _ => True) v0_ r ∧ Below w.heap.size w w' := by
 have HB := aa (Below.refl w.heap.size w)
 have H : ((strings_genSplit.f k a0 a1 0 (-1)).bind fun t101 => (some t101)) = some r := h
 clear h
 replace H := Option.bind_eq_some_iff.mp H
 obtain ⟨t101, A30, H⟩ := H
 replace H : (some t101) = some r := H
 have A3 := aa A30
 clear A30
 obtain rfl := Option.some.inj H
 go_enter Tryd.func70, Tryd.ntmps70
 go_wp2_with (first | ((with_reducible refine gate_callee (f := 84) rfl ?_); refine goesL_ (some 7) rfl rfl Tryd.func84 (by kernel_rfl) rfl #[.string a0, .string a1, .int .i64 0, .int .i64 (-1)] rfl zjnmae ?_; (with_reducible refine (strings_genSplit.calls k a0 a1 0 (-1) t101 _ A3.out).mono ?_); rintro e w4 ⟨v102, rfl, ho0, hb⟩; refine ⟨_, rfl, ?_⟩; have n0_ := aa (Kd.R_lower ho0 (below_size zjjbob)); have n1_ := aa (below_step zjjbob hb); clear HB; have HO103 := n0_; have HB := n1_; clear n0_ n1_; (try clear hb); (try clear hb2); (try clear hk); (try clear hi); (try clear ho0)))
 go_ret
 exact ⟨_, by first | rfl | (simp [errW_none, errW_some] <;> rfl) | (simp [*, errW_none, errW_some] <;> rfl), by (with_reducible repeat (first | apply Kd.R_alloc | apply Kd.R_drewN | apply Kd.R_drew)); exact HO103.out, by repeat (first | (with_reducible first | exact HB.out | apply below_alloc | apply pw_below_drewN | apply below_drew1) | exact HB.out)⟩

end Go.Proofs.YtajlnffefoeppaaDoor.Qa

-- By gp.py (wip/gen of the work's repo), a program of this workplace over the kit's print: Lean checks it.
namespace Go.Proofs.YtajlnffefoeppaaDoor.Qa
open Go.RowKit Go.Proofs.YtajlnffefoeppaaDoorW.PrintWords Go.Proofs.YtajlnffefoeppaaDoorW.PrintLast Go.Proofs.YtajlnffefoeppaaDoorW.PrintMore
attribute [local go_sem] max2_int min2_int max_two min_two max_three min_three max_four min_four   -- for this text's walks alone
set_option linter.unusedVariables false
set_option linter.unusedSimpArgs false
set_option maxHeartbeats 8000000
set_option maxRecDepth 100000

/-! ### impl_isName: function 71 -/
def impl_isName.l0 : Nat → ByteArray → Int → Int → Option (Bool)
 | 0, _, _, _ => none
 | k + 1, x0, x5, x6 => if x6 < x5 then (if 0 ≤ x6 then (if x6 < (x0.size : Int) then (if (bt x0 x6) < 97 then (if (bt x0 x6) < 48 then (some false) else (if (bt x0 x6) > 57 then (some false) else (impl_isName.l0 k x0 x5 (wrap64 (x6 + 1))))) else (if (bt x0 x6) > 122 then (if (bt x0 x6) < 48 then (some false) else (if (bt x0 x6) > 57 then (some false) else (impl_isName.l0 k x0 x5 (wrap64 (x6 + 1))))) else (impl_isName.l0 k x0 x5 (wrap64 (x6 + 1))))) else (none)) else (none)) else ((impl_within.f (x0.size : Int) 1 8).bind fun t101 => (some t101))
def impl_isName.f (k : Nat) (a0 : ByteArray) : Option (Bool) := impl_isName.l0 k a0 (a0.size : Int) 0
theorem impl_isName.mono_l : ∀ k, (∀ y0 y1 y2, LeO (impl_isName.l0 k y0 y1 y2) (impl_isName.l0 (k + 1) y0 y1 y2))
 | 0 => fun _ _ _ r h => by simp [impl_isName.l0] at h
 | k + 1 => by
  have ih0 := impl_isName.mono_l k
  ·
   intro y0 y1 y2
   unfold impl_isName.l0
   repeat' first
   | (with_reducible exact ih0 _ _ _)
   | (with_reducible exact LeO.refl _)
   | (with_reducible exact LeO.none _)
   | (with_reducible refine LeO.ite ?_ ?_)
   | (with_reducible refine LeO.bind ?_ (fun _ => ?_))
   | exact ih0 _ _ _
   | exact LeO.none _
   | refine LeO.ite ?_ ?_
   | refine LeO.bind ?_ (fun _ => ?_)
theorem impl_isName.mono : ∀ a0 k, LeO (impl_isName.f k a0) (impl_isName.f (k + 1) a0) := by
 intro a0 k
 have ih0 := impl_isName.mono_l k
 unfold impl_isName.f
 repeat' first
   | (with_reducible exact ih0 _ _ _)
   | (with_reducible exact LeO.refl _)
   | (with_reducible exact LeO.none _)
   | (with_reducible refine LeO.ite ?_ ?_)
   | (with_reducible refine LeO.bind ?_ (fun _ => ?_))
   | exact ih0 _ _ _
   | exact LeO.none _
   | refine LeO.ite ?_ ?_
   | refine LeO.bind ?_ (fun _ => ?_)
theorem impl_isName.calls (k : Nat) (a0 : ByteArray) (r : Bool) (w : World) (h : impl_isName.f k a0 = some r) :
  Calls Tryd.prog 71 #[.string a0] w fun e w' => e = .returned (.bool r) ∧ Drawn0 w w' := by
 have H : (impl_isName.l0 k a0 (a0.size : Int) 0) = some r := h
 clear h
 have H' := aa H
 clear H
 go_enter Tryd.func71, Tryd.ntmps71
 go_wp2
 go_loopg [6] k (fun kq v6 w' => ∃ (x6_1 : Int), v6 = .int .i64 x6_1 ∧ Aside0 (impl_isName.l0 kq a0 (a0.size : Int) x6_1 = some r) ∧ Aside0 (kq ≤ k) ∧ Drawn0 w w')
 case atStart => exact ⟨(0), zagbkp, H', ⟨Nat.le_refl _⟩, by repeat (first | exact Drawn0.refl _ | apply Drawn0.step)⟩
 case round =>
  clear H'
  obtain ⟨x6_1, rfl, HA, HK1, ⟨m1, rfl⟩⟩ := hrel
  cases gk with
  | zero => exact absurd HA.out (by simp [impl_isName.l0])
  | succ k1 =>
   have H := HA.out
   clear HA
   simp only [impl_isName.l0] at H
   by_cases c2 : x6_1 < (a0.size : Int)
   ·
    rw [if_pos c2] at H
    have c2b0 : decide (x6_1 < (a0.size : Int)) = true := decide_eq_true c2
    clear c2
    by_cases c3 : 0 ≤ x6_1
    ·
     rw [if_pos c3] at H
     have c3b0 : decide (0 ≤ x6_1) = true := decide_eq_true c3
     clear c3
     by_cases c4 : x6_1 < (a0.size : Int)
     ·
      rw [if_pos c4] at H
      have c4b0 : decide (x6_1 < (a0.size : Int)) = true := decide_eq_true c4
      clear c4
      by_cases c6 : (bt a0 x6_1) < 97
      ·
       rw [if_pos c6] at H
       have c6b0 : decide ((bt a0 x6_1) < 97) = true := decide_eq_true c6
       clear c6
       by_cases c8 : (bt a0 x6_1) < 48
       ·
        rw [if_pos c8] at H
        have c8b0 : decide ((bt a0 x6_1) < 48) = true := decide_eq_true c8
        clear c8
        obtain rfl := Option.some.inj H
        have p5 : 0 ≤ (x6_1 : Int) := of_decide_eq_true zgglam
        have q5 : x6_1 < (a0.size : Int) := of_decide_eq_true zgglam
        have hx5 := bt_at a0 x6_1
        replace p5 := eq_true p5
        replace q5 := eq_true q5
        have p7 : 0 ≤ (x6_1 : Int) := of_decide_eq_true zgglam
        have q7 : x6_1 < (a0.size : Int) := of_decide_eq_true zgglam
        have hx7 := bt_at a0 x6_1
        replace p7 := eq_true p7
        replace q7 := eq_true q7
        go_wp2
        go_ret
        exact ⟨by first | rfl | (simp; done) | (simp [*]; done), by repeat (first | exact Drawn0.refl _ | apply Drawn0.step)⟩
       ·
        rw [if_neg c8] at H
        have c8b0 : decide ((bt a0 x6_1) < 48) = false := decide_eq_false c8
        clear c8
        by_cases c10 : (bt a0 x6_1) > 57
        ·
         rw [if_pos c10] at H
         have c10b0 : decide (57 < (bt a0 x6_1)) = true := decide_eq_true c10
         clear c10
         obtain rfl := Option.some.inj H
         have p5 : 0 ≤ (x6_1 : Int) := of_decide_eq_true zgglam
         have q5 : x6_1 < (a0.size : Int) := of_decide_eq_true zgglam
         have hx5 := bt_at a0 x6_1
         replace p5 := eq_true p5
         replace q5 := eq_true q5
         have p7 : 0 ≤ (x6_1 : Int) := of_decide_eq_true zgglam
         have q7 : x6_1 < (a0.size : Int) := of_decide_eq_true zgglam
         have hx7 := bt_at a0 x6_1
         replace p7 := eq_true p7
         replace q7 := eq_true q7
         have p9 : 0 ≤ (x6_1 : Int) := of_decide_eq_true zgglam
         have q9 : x6_1 < (a0.size : Int) := of_decide_eq_true zgglam
         have hx9 := bt_at a0 x6_1
         replace p9 := eq_true p9
         replace q9 := eq_true q9
         go_wp2
         go_ret
         exact ⟨by first | rfl | (simp; done) | (simp [*]; done), by repeat (first | exact Drawn0.refl _ | apply Drawn0.step)⟩
        ·
         rw [if_neg c10] at H
         have c10b0 : decide (57 < (bt a0 x6_1)) = false := decide_eq_false c10
         clear c10
         have H' := aa H
         clear H
         have p5 : 0 ≤ (x6_1 : Int) := of_decide_eq_true zgglam
         have q5 : x6_1 < (a0.size : Int) := of_decide_eq_true zgglam
         have hx5 := bt_at a0 x6_1
         replace p5 := eq_true p5
         replace q5 := eq_true q5
         have p7 : 0 ≤ (x6_1 : Int) := of_decide_eq_true zgglam
         have q7 : x6_1 < (a0.size : Int) := of_decide_eq_true zgglam
         have hx7 := bt_at a0 x6_1
         replace p7 := eq_true p7
         replace q7 := eq_true q7
         have p9 : 0 ≤ (x6_1 : Int) := of_decide_eq_true zgglam
         have q9 : x6_1 < (a0.size : Int) := of_decide_eq_true zgglam
         have hx9 := bt_at a0 x6_1
         replace p9 := eq_true p9
         replace q9 := eq_true q9
         go_wp2
         go_roundg k1
         case measure => have := HK1.out; omega
         case rel => exact ⟨(wrap64 (x6_1 + 1)), zagbkp, H', ⟨by have := HK1.out; omega⟩, by repeat (first | exact Drawn0.refl _ | apply Drawn0.step)⟩
      ·
       rw [if_neg c6] at H
       have c6b0 : decide ((bt a0 x6_1) < 97) = false := decide_eq_false c6
       clear c6
       by_cases c12 : (bt a0 x6_1) > 122
       ·
        rw [if_pos c12] at H
        have c12b0 : decide (122 < (bt a0 x6_1)) = true := decide_eq_true c12
        clear c12
        by_cases c14 : (bt a0 x6_1) < 48
        ·
         rw [if_pos c14] at H
         have c14b0 : decide ((bt a0 x6_1) < 48) = true := decide_eq_true c14
         clear c14
         obtain rfl := Option.some.inj H
         have p5 : 0 ≤ (x6_1 : Int) := of_decide_eq_true zgglam
         have q5 : x6_1 < (a0.size : Int) := of_decide_eq_true zgglam
         have hx5 := bt_at a0 x6_1
         replace p5 := eq_true p5
         replace q5 := eq_true q5
         have p11 : 0 ≤ (x6_1 : Int) := of_decide_eq_true zgglam
         have q11 : x6_1 < (a0.size : Int) := of_decide_eq_true zgglam
         have hx11 := bt_at a0 x6_1
         replace p11 := eq_true p11
         replace q11 := eq_true q11
         have p13 : 0 ≤ (x6_1 : Int) := of_decide_eq_true zgglam
         have q13 : x6_1 < (a0.size : Int) := of_decide_eq_true zgglam
         have hx13 := bt_at a0 x6_1
         replace p13 := eq_true p13
         replace q13 := eq_true q13
         go_wp2
         go_ret
         exact ⟨by first | rfl | (simp; done) | (simp [*]; done), by repeat (first | exact Drawn0.refl _ | apply Drawn0.step)⟩
        ·
         rw [if_neg c14] at H
         have c14b0 : decide ((bt a0 x6_1) < 48) = false := decide_eq_false c14
         clear c14
         by_cases c16 : (bt a0 x6_1) > 57
         ·
          rw [if_pos c16] at H
          have c16b0 : decide (57 < (bt a0 x6_1)) = true := decide_eq_true c16
          clear c16
          obtain rfl := Option.some.inj H
          have p5 : 0 ≤ (x6_1 : Int) := of_decide_eq_true zgglam
          have q5 : x6_1 < (a0.size : Int) := of_decide_eq_true zgglam
          have hx5 := bt_at a0 x6_1
          replace p5 := eq_true p5
          replace q5 := eq_true q5
          have p11 : 0 ≤ (x6_1 : Int) := of_decide_eq_true zgglam
          have q11 : x6_1 < (a0.size : Int) := of_decide_eq_true zgglam
          have hx11 := bt_at a0 x6_1
          replace p11 := eq_true p11
          replace q11 := eq_true q11
          have p13 : 0 ≤ (x6_1 : Int) := of_decide_eq_true zgglam
          have q13 : x6_1 < (a0.size : Int) := of_decide_eq_true zgglam
          have hx13 := bt_at a0 x6_1
          replace p13 := eq_true p13
          replace q13 := eq_true q13
          have p15 : 0 ≤ (x6_1 : Int) := of_decide_eq_true zgglam
          have q15 : x6_1 < (a0.size : Int) := of_decide_eq_true zgglam
          have hx15 := bt_at a0 x6_1
          replace p15 := eq_true p15
          replace q15 := eq_true q15
          go_wp2
          go_ret
          exact ⟨by first | rfl | (simp; done) | (simp [*]; done), by repeat (first | exact Drawn0.refl _ | apply Drawn0.step)⟩
         ·
          rw [if_neg c16] at H
          have c16b0 : decide (57 < (bt a0 x6_1)) = false := decide_eq_false c16
          clear c16
          have H' := aa H
          clear H
          have p5 : 0 ≤ (x6_1 : Int) := of_decide_eq_true zgglam
          have q5 : x6_1 < (a0.size : Int) := of_decide_eq_true zgglam
          have hx5 := bt_at a0 x6_1
          replace p5 := eq_true p5
          replace q5 := eq_true q5
          have p11 : 0 ≤ (x6_1 : Int) := of_decide_eq_true zgglam
          have q11 : x6_1 < (a0.size : Int) := of_decide_eq_true zgglam
          have hx11 := bt_at a0 x6_1
          replace p11 := eq_true p11
          replace q11 := eq_true q11
          have p13 : 0 ≤ (x6_1 : Int) := of_decide_eq_true zgglam
          have q13 : x6_1 < (a0.size : Int) := of_decide_eq_true zgglam
          have hx13 := bt_at a0 x6_1
          replace p13 := eq_true p13
          replace q13 := eq_true q13
          have p15 : 0 ≤ (x6_1 : Int) := of_decide_eq_true zgglam
          have q15 : x6_1 < (a0.size : Int) := of_decide_eq_true zgglam
          have hx15 := bt_at a0 x6_1
          replace p15 := eq_true p15
          replace q15 := eq_true q15
          go_wp2
          go_roundg k1
          case measure => have := HK1.out; omega
          case rel => exact ⟨(wrap64 (x6_1 + 1)), zagbkp, H', ⟨by have := HK1.out; omega⟩, by repeat (first | exact Drawn0.refl _ | apply Drawn0.step)⟩
       ·
        rw [if_neg c12] at H
        have c12b0 : decide (122 < (bt a0 x6_1)) = false := decide_eq_false c12
        clear c12
        have H' := aa H
        clear H
        have p5 : 0 ≤ (x6_1 : Int) := of_decide_eq_true zgglam
        have q5 : x6_1 < (a0.size : Int) := of_decide_eq_true zgglam
        have hx5 := bt_at a0 x6_1
        replace p5 := eq_true p5
        replace q5 := eq_true q5
        have p11 : 0 ≤ (x6_1 : Int) := of_decide_eq_true zgglam
        have q11 : x6_1 < (a0.size : Int) := of_decide_eq_true zgglam
        have hx11 := bt_at a0 x6_1
        replace p11 := eq_true p11
        replace q11 := eq_true q11
        go_wp2
        go_roundg k1
        case measure => have := HK1.out; omega
        case rel => exact ⟨(wrap64 (x6_1 + 1)), zagbkp, H', ⟨by have := HK1.out; omega⟩, by repeat (first | exact Drawn0.refl _ | apply Drawn0.step)⟩
     ·
      rw [if_neg c4] at H
      exact absurd H (by simp)
    ·
     rw [if_neg c3] at H
     exact absurd H (by simp)
   ·
    rw [if_neg c2] at H
    have c2b0 : decide (x6_1 < (a0.size : Int)) = false := decide_eq_false c2
    clear c2
    replace H := Option.bind_eq_some_iff.mp H
    obtain ⟨t101, A170, H⟩ := H
    replace H : (some t101) = some r := H
    have A17 := aa A170
    clear A170
    obtain rfl := Option.some.inj H
    go_wp2_with (first | ((with_reducible refine gate_callee (f := 56) rfl ?_); refine goesL_ (some 34) rfl rfl Tryd.func56 (by kernel_rfl) rfl #[.int .i64 (a0.size : Int), .int .i64 1, .int .i64 8] rfl zjnmae ?_; (with_reducible refine (impl_within.calls (a0.size : Int) 1 8 t101 _ A17.out).mono ?_); rintro e w' ⟨rfl, ⟨nd, rfl⟩⟩; refine ⟨_, rfl, ?_⟩))
    go_ret
    exact ⟨by first | rfl | (simp; done) | (simp [*]; done), by repeat (first | exact Drawn0.refl _ | apply Drawn0.step)⟩

end Go.Proofs.YtajlnffefoeppaaDoor.Qa

-- By gp.py (wip/gen of the work's repo), a program of this workplace over the kit's print: Lean checks it.
namespace Go.Proofs.YtajlnffefoeppaaDoor.Qa
open Go.RowKit Go.Proofs.YtajlnffefoeppaaDoorW.PrintWords Go.Proofs.YtajlnffefoeppaaDoorW.PrintLast Go.Proofs.YtajlnffefoeppaaDoorW.PrintMore
attribute [local go_sem] max2_int min2_int max_two min_two max_three min_three max_four min_four   -- for this text's walks alone
set_option linter.unusedVariables false
set_option linter.unusedSimpArgs false
set_option maxHeartbeats 8000000
set_option maxRecDepth 100000

/-! ### impl_PathFault: function 52 -/
mutual
def impl_PathFault.j0 : Nat → ByteArray → Bool → Option (Int)
 | 0, _, _ => none
 | k + 1, x0, x13 => if x13 = true then (some 2) else (if x0.toList = ([47] : List UInt8) then (some 0) else ((strings_Split.f k x0 (⟨#[47]⟩ : ByteArray)).bind fun t102 => (if (t102.length : Int) < 2 then (impl_PathFault.j1 k t102 true) else (if 0 < (t102.length : Int) then (impl_PathFault.j1 k t102 ((rdOf ByteArray.empty t102 0).toList != ([] : List UInt8))) else (none)))))
def impl_PathFault.j1 : Nat → List ByteArray → Bool → Option (Int)
 | 0, _, _ => none
 | k + 1, x3, x26 => if x26 = true then (some 5) else (if 1 ≤ (x3.length : Int) then ((some (x3.drop 1 : List ByteArray)).bind fun y106 => (impl_PathFault.l0 k y106 (y106.length : Int) 0)) else (none))
def impl_PathFault.l0 : Nat → List ByteArray → Int → Int → Option (Int)
 | 0, _, _, _ => none
 | k + 1, x28, x29, x30 => if x30 < x29 then (if 0 ≤ x30 then (if x30 < (x28.length : Int) then ((impl_isName.f k (rdOf ByteArray.empty x28 x30)).bind fun t111 => (if t111 = true then (impl_PathFault.l0 k x28 x29 (wrap64 (x30 + 1))) else (some 5))) else (none)) else (none)) else (some 0)
end
def impl_PathFault.f (k : Nat) (a0 : ByteArray) : Option (Int) := if (a0.size : Int) > 24 then (impl_PathFault.j0 k a0 true) else ((strings_Count.f a0 (⟨#[47]⟩ : ByteArray)).bind fun t101 => (impl_PathFault.j0 k a0 (decide (t101 > 4))))
theorem impl_PathFault.mono_l : ∀ k, (∀ y0 y1, LeO (impl_PathFault.j0 k y0 y1) (impl_PathFault.j0 (k + 1) y0 y1)) ∧ (∀ y0 y1, LeO (impl_PathFault.j1 k y0 y1) (impl_PathFault.j1 (k + 1) y0 y1)) ∧ (∀ y0 y1 y2, LeO (impl_PathFault.l0 k y0 y1 y2) (impl_PathFault.l0 (k + 1) y0 y1 y2))
 | 0 => ⟨fun _ _ r h => by simp [impl_PathFault.j0] at h, fun _ _ r h => by simp [impl_PathFault.j1] at h, fun _ _ _ r h => by simp [impl_PathFault.l0] at h⟩
 | k + 1 => by
  obtain ⟨ih0, ih1, ih2⟩ := impl_PathFault.mono_l k
  refine ⟨?_, ?_, ?_⟩
  ·
   intro y0 y1
   unfold impl_PathFault.j0
   repeat' first
   | (with_reducible exact ih0 _ _)
   | (with_reducible exact ih1 _ _)
   | (with_reducible exact ih2 _ _ _)
   | (with_reducible exact impl_isName.mono _ _)
   | (with_reducible exact strings_Split.mono _ _ _)
   | (with_reducible exact LeO.refl _)
   | (with_reducible exact LeO.none _)
   | (with_reducible refine LeO.ite ?_ ?_)
   | (with_reducible refine LeO.bind ?_ (fun _ => ?_))
   | exact ih0 _ _
   | exact ih1 _ _
   | exact ih2 _ _ _
   | exact impl_isName.mono _ _
   | exact strings_Split.mono _ _ _
   | exact LeO.none _
   | refine LeO.ite ?_ ?_
   | refine LeO.bind ?_ (fun _ => ?_)
  ·
   intro y0 y1
   unfold impl_PathFault.j1
   repeat' first
   | (with_reducible exact ih0 _ _)
   | (with_reducible exact ih1 _ _)
   | (with_reducible exact ih2 _ _ _)
   | (with_reducible exact impl_isName.mono _ _)
   | (with_reducible exact strings_Split.mono _ _ _)
   | (with_reducible exact LeO.refl _)
   | (with_reducible exact LeO.none _)
   | (with_reducible refine LeO.ite ?_ ?_)
   | (with_reducible refine LeO.bind ?_ (fun _ => ?_))
   | exact ih0 _ _
   | exact ih1 _ _
   | exact ih2 _ _ _
   | exact impl_isName.mono _ _
   | exact strings_Split.mono _ _ _
   | exact LeO.none _
   | refine LeO.ite ?_ ?_
   | refine LeO.bind ?_ (fun _ => ?_)
  ·
   intro y0 y1 y2
   unfold impl_PathFault.l0
   repeat' first
   | (with_reducible exact ih0 _ _)
   | (with_reducible exact ih1 _ _)
   | (with_reducible exact ih2 _ _ _)
   | (with_reducible exact impl_isName.mono _ _)
   | (with_reducible exact strings_Split.mono _ _ _)
   | (with_reducible exact LeO.refl _)
   | (with_reducible exact LeO.none _)
   | (with_reducible refine LeO.ite ?_ ?_)
   | (with_reducible refine LeO.bind ?_ (fun _ => ?_))
   | exact ih0 _ _
   | exact ih1 _ _
   | exact ih2 _ _ _
   | exact impl_isName.mono _ _
   | exact strings_Split.mono _ _ _
   | exact LeO.none _
   | refine LeO.ite ?_ ?_
   | refine LeO.bind ?_ (fun _ => ?_)
theorem impl_PathFault.mono : ∀ a0 k, LeO (impl_PathFault.f k a0) (impl_PathFault.f (k + 1) a0) := by
 intro a0 k
 obtain ⟨ih0, ih1, ih2⟩ := impl_PathFault.mono_l k
 unfold impl_PathFault.f
 repeat' first
   | (with_reducible exact ih0 _ _)
   | (with_reducible exact ih1 _ _)
   | (with_reducible exact ih2 _ _ _)
   | (with_reducible exact impl_isName.mono _ _)
   | (with_reducible exact strings_Split.mono _ _ _)
   | (with_reducible exact LeO.refl _)
   | (with_reducible exact LeO.none _)
   | (with_reducible refine LeO.ite ?_ ?_)
   | (with_reducible refine LeO.bind ?_ (fun _ => ?_))
   | exact ih0 _ _
   | exact ih1 _ _
   | exact ih2 _ _ _
   | exact impl_isName.mono _ _
   | exact strings_Split.mono _ _ _
   | exact LeO.none _
   | refine LeO.ite ?_ ?_
   | refine LeO.bind ?_ (fun _ => ?_)
theorem impl_PathFault.calls (k : Nat) (a0 : ByteArray) (r : Int) (w : World) (h : impl_PathFault.f k a0 = some r) :
  Calls Tryd.prog 52 #[.string a0] w fun e w' => e = .returned (.int .i64 r) ∧ Below w.heap.size w w' := by
 have HB := aa (Below.refl w.heap.size w)
 have H : (if (a0.size : Int) > 24 then (impl_PathFault.j0 k a0 true) else ((strings_Count.f a0 (⟨#[47]⟩ : ByteArray)).bind fun t101 => (impl_PathFault.j0 k a0 (decide (t101 > 4))))) = some r := h
 clear h
 have HC2 := aa H
 clear H
 go_enter Tryd.func52, Tryd.ntmps52
 go_upto_region 1 with (fail)
 go_cut [13] (fun v13 wc => ∃ (kq : Nat) (x13_1 : Bool), v13 = .bool x13_1 ∧ Aside0 (impl_PathFault.j0 kq a0 x13_1 = some r) ∧ Aside0 (kq ≤ k) ∧ Aside0 (Below w.heap.size w wc))
 case first =>
  have H := HC2.out
  clear HC2
  by_cases c3 : (a0.size : Int) > 24
  ·
   rw [if_pos c3] at H
   have c3b0 : decide (24 < (a0.size : Int)) = true := decide_eq_true c3
   have c3b1 : decide (24 < a0.size) = true := decide_eq_true (by omega)
   clear c3
   (first | rw [c3b0] | (simp only [i64_w, i32_w]; rw [c3b0]) | (simp only [c3b2, Bool.not_false, Bool.not_true]) | skip)
   have H' := aa H
   clear H
   go_wp2
   go_meet
   case rel => exact ⟨_, (true), zagbkp, H', ⟨by first | omega | exact Nat.le_refl _⟩, ⟨by repeat (first | (with_reducible first | exact HB.out | apply below_alloc | apply pw_below_drewN | apply below_drew1) | exact HB.out)⟩⟩
  ·
   rw [if_neg c3] at H
   have c3b0 : decide (24 < (a0.size : Int)) = false := decide_eq_false c3
   have c3b1 : decide (24 < a0.size) = false := decide_eq_false (by omega)
   clear c3
   (first | rw [c3b0] | (simp only [i64_w, i32_w]; rw [c3b0]) | (simp only [c3b2, Bool.not_false, Bool.not_true]) | skip)
   replace H := Option.bind_eq_some_iff.mp H
   obtain ⟨t101, A40, H⟩ := H
   replace H : (impl_PathFault.j0 k a0 (decide (t101 > 4))) = some r := H
   have A4 := aa A40
   clear A40
   have H' := aa H
   clear H
   go_wp2_with (first | (go_at_call 69; (with_reducible refine (strings_Count.calls a0 (⟨#[47]⟩ : ByteArray) t101 _ A4.out).mono ?_); rintro e w' ⟨rfl, ⟨nd, rfl⟩⟩))
   go_meet
   case rel => exact ⟨_, (decide (t101 > 4)), zagbkp, H', ⟨by first | omega | exact Nat.le_refl _⟩, ⟨by repeat (first | (with_reducible first | exact HB.out | apply below_alloc | apply pw_below_drewN | apply below_drew1) | exact HB.out)⟩⟩
 case rest =>
  clear HC2
  try clear p2
  try clear c3
  try clear c3b0
  try clear c3b1
  try clear c3b2
  obtain ⟨kq, x13_1, rfl, HA, HJ1, HB⟩ := hcut
  cases kq with
  | zero => exact absurd HA.out (by simp [impl_PathFault.j0])
  | succ kj1 =>
   have H := HA.out
   clear HA
   simp only [impl_PathFault.j0] at H
   by_cases c5 : x13_1 = true
   ·
    subst c5
    have H1 : (some 2) = some r := by rw [if_pos rfl] at H; exact H
    clear H
    have H := H1
    clear H1
    obtain rfl := Option.some.inj H
    go_wp2
    go_ret
    exact ⟨by first | rfl | (simp [errW_none, errW_some] <;> rfl) | (simp [*, errW_none, errW_some] <;> rfl), by repeat (first | (with_reducible first | exact HB.out | apply below_alloc | apply pw_below_drewN | apply below_drew1) | exact HB.out)⟩
   ·
    replace c5 := Bool.eq_false_iff.mpr c5
    subst c5
    have H1 : (if a0.toList = ([47] : List UInt8) then (some 0) else ((strings_Split.f kj1 a0 (⟨#[47]⟩ : ByteArray)).bind fun t102 => (if (t102.length : Int) < 2 then (impl_PathFault.j1 kj1 t102 true) else (if 0 < (t102.length : Int) then (impl_PathFault.j1 kj1 t102 ((rdOf ByteArray.empty t102 0).toList != ([] : List UInt8))) else (none))))) = some r := by rw [if_neg (show ¬ (false = true) by decide)] at H; exact H
    clear H
    have H := H1
    clear H1
    by_cases c6 : a0.toList = ([47] : List UInt8)
    ·
     rw [if_pos c6] at H
     have c6b0 : (a0.toList == ([47] : List UInt8)) = true := beq_iff_eq.mpr c6
     have c6b1 : (a0.toList != ([47] : List UInt8)) = false := bne_eq_false_iff_eq.mpr c6
     clear c6
     obtain rfl := Option.some.inj H
     go_wp2
     go_ret
     exact ⟨by first | rfl | (simp [errW_none, errW_some] <;> rfl) | (simp [*, errW_none, errW_some] <;> rfl), by repeat (first | (with_reducible first | exact HB.out | apply below_alloc | apply pw_below_drewN | apply below_drew1) | exact HB.out)⟩
    ·
     rw [if_neg c6] at H
     have c6b0 : (a0.toList == ([47] : List UInt8)) = false := beq_eq_false_iff_ne.mpr c6
     have c6b1 : (a0.toList != ([47] : List UInt8)) = true := bne_iff_ne.mpr c6
     replace H := Option.bind_eq_some_iff.mp H
     obtain ⟨t102, A70, H⟩ := H
     replace H : (if (t102.length : Int) < 2 then (impl_PathFault.j1 kj1 t102 true) else (if 0 < (t102.length : Int) then (impl_PathFault.j1 kj1 t102 ((rdOf ByteArray.empty t102 0).toList != ([] : List UInt8))) else (none))) = some r := H
     have A7 := aa A70
     clear A70
     have HC8 := aa H
     clear H
     go_upto_region 6 with (first | ((with_reducible refine gate_callee (f := 70) rfl ?_); refine goesL_ (some 17) rfl rfl Tryd.func70 (by kernel_rfl) rfl #[.string a0, .string (⟨#[47]⟩ : ByteArray)] rfl zjnmae ?_; (with_reducible refine (strings_Split.calls kj1 a0 (⟨#[47]⟩ : ByteArray) t102 _ A7.out).mono ?_); rintro e w9 ⟨v103, rfl, ho0, hb⟩; refine ⟨_, rfl, ?_⟩; have n0_ := aa (Kd.R_lower ho0 (below_size zjjbob)); have n1_ := aa (below_step zjjbob hb); clear HB; have HO104 := n0_; have HB := n1_; clear n0_ n1_; (try clear hb); (try clear hb2); (try clear hk); (try clear hi); (try clear ho0)))
     (try simp only [Act.put, List.setIfInBounds_toArray, List.set_cons_zero, List.set_cons_succ])
     go_cut [26] (fun v26 wc => ∃ (kq : Nat) (x26_7 : Bool), v26 = .bool x26_7 ∧ Aside0 (impl_PathFault.j1 kq t102 x26_7 = some r) ∧ Aside0 (kq ≤ kj1) ∧ Aside0 (Kd.R Kd.string 9 wc w.heap.size (fun _ => True) v103 t102) ∧ Aside0 (Below w.heap.size w wc))
     case first =>
      have H := HC8.out
      clear HC8
      by_cases c10 : (t102.length : Int) < 2
      ·
       rw [if_pos c10] at H
       have c10b0 : decide ((t102.length : Int) < 2) = true := decide_eq_true c10
       have c10b1 : decide (t102.length < 2) = true := decide_eq_true (by omega)
       clear c10
       (first | rw [c10b0] | (simp only [i64_w, i32_w]; rw [c10b0]) | (simp only [c10b2, Bool.not_false, Bool.not_true]) | skip)
       have H' := aa H
       clear H
       obtain ⟨Ao11, co11, eo11⟩ := Kd.R_slice HO104.out
       subst eo11
       go_wp2
       go_meet
       case rel => exact ⟨_, (true), zagbkp, H', ⟨by have := HJ1.out; first | omega | exact Nat.le_refl _⟩, ⟨by (with_reducible repeat (first | apply Kd.R_alloc | apply Kd.R_drewN | apply Kd.R_drew)); exact HO104.out⟩, ⟨by repeat (first | (with_reducible first | exact HB.out | apply below_alloc | apply pw_below_drewN | apply below_drew1) | exact HB.out)⟩⟩
      ·
       rw [if_neg c10] at H
       have c10b0 : decide ((t102.length : Int) < 2) = false := decide_eq_false c10
       have c10b1 : decide (t102.length < 2) = false := decide_eq_false (by omega)
       clear c10
       (first | rw [c10b0] | (simp only [i64_w, i32_w]; rw [c10b0]) | (simp only [c10b2, Bool.not_false, Bool.not_true]) | skip)
       by_cases c12 : 0 < (t102.length : Int)
       ·
        rw [if_pos c12] at H
        have c12b0 : decide (0 < (t102.length : Int)) = true := decide_eq_true c12
        have c12b1 : decide (0 < t102.length) = true := decide_eq_true (by omega)
        clear c12
        have H' := aa H
        clear H
        obtain ⟨Ao13, co13, eo13⟩ := Kd.R_slice HO104.out
        subst eo13
        have p105 : 0 ≤ (0 : Int) := (by omega)
        have q105 : 0 < (t102.length : Int) := of_decide_eq_true zgglam
        obtain ⟨ad105, e105, hx105_0⟩ := Kd.at_string (Kd.R_reads' HO104.out).2.2 0 p105 q105
        cases e105
        have qi105 : (0 < t102.length) = True := eq_true (by omega)
        (try rw [show ((0 : Int)).toNat = 0 from rfl] at hx105_0)
        (try rw [Addr.add_zero'] at hx105_0)
        replace p105 := eq_true p105
        replace q105 := eq_true q105
        go_wp2
        go_meet
        case rel => exact ⟨_, (((rdOf ByteArray.empty t102 0).toList != ([] : List UInt8))), zheoaa, H', ⟨by have := HJ1.out; first | omega | exact Nat.le_refl _⟩, ⟨by (with_reducible repeat (first | apply Kd.R_alloc | apply Kd.R_drewN | apply Kd.R_drew)); exact HO104.out⟩, ⟨by repeat (first | (with_reducible first | exact HB.out | apply below_alloc | apply pw_below_drewN | apply below_drew1) | exact HB.out)⟩⟩
       ·
        rw [if_neg c12] at H
        exact absurd H (by simp)
     case rest =>
      clear HC8
      try clear c1
      try clear p1
      try clear q1
      try clear hx1
      try clear qi1
      try clear p2
      try clear c3
      try clear c3b0
      try clear c3b1
      try clear c3b2
      try clear c5
      try clear c6
      try clear c6b0
      try clear c6b1
      try clear c7
      try clear c10
      try clear c10b0
      try clear c10b1
      try clear c10b2
      try clear p10
      try clear q10
      try clear hx10
      try clear qi10
      try clear c12
      try clear c12b0
      try clear c12b1
      try clear hx105_0
      try clear p105
      try clear p2
      try clear q105
      obtain ⟨kq, x26_7, rfl, HA, HJ7, HO_3, HB⟩ := hcut
      cases kq with
      | zero => exact absurd HA.out (by simp [impl_PathFault.j1])
      | succ kj7 =>
       have H := HA.out
       clear HA
       simp only [impl_PathFault.j1] at H
       by_cases c14 : x26_7 = true
       ·
        subst c14
        have H1 : (some 5) = some r := by rw [if_pos rfl] at H; exact H
        clear H
        have H := H1
        clear H1
        obtain rfl := Option.some.inj H
        go_wp2
        go_ret
        exact ⟨by first | rfl | (simp [errW_none, errW_some] <;> rfl) | (simp [*, errW_none, errW_some] <;> rfl), by repeat (first | (with_reducible first | exact HB.out | apply below_alloc | apply pw_below_drewN | apply below_drew1) | exact HB.out)⟩
       ·
        replace c14 := Bool.eq_false_iff.mpr c14
        subst c14
        have H1 : (if 1 ≤ (t102.length : Int) then ((some (t102.drop 1 : List ByteArray)).bind fun y106 => (impl_PathFault.l0 kj7 y106 (y106.length : Int) 0)) else (none)) = some r := by rw [if_neg (show ¬ (false = true) by decide)] at H; exact H
        clear H
        have H := H1
        clear H1
        by_cases c15 : 1 ≤ (t102.length : Int)
        ·
         rw [if_pos c15] at H
         have c15b0 := eq_true c15
         have c15b1 : decide (1 ≤ (t102.length : Int)) = true := decide_eq_true c15
         clear c15
         obtain ⟨y106, hy106⟩ : ∃ y_ : List ByteArray, y_ = (t102.drop 1) := ⟨_, rfl⟩
         replace H : (impl_PathFault.l0 kj7 y106 (y106.length : Int) 0) = some r := by first | (rw [hy106]; with_reducible exact H) | (have H2_ := (Option.bind_some _ _).symm.trans H; rw [hy106]; with_reducible exact H2_) | (have H2_ := (Option.bind_some _ _).symm.trans H; with_reducible exact H2_) | with_reducible exact H | (rw [hy106]; exact H) | exact H
         have Ny106 := aa hy106
         clear hy106
         have H' := aa H
         clear H
         obtain ⟨Ao17, co17, eo17⟩ := Kd.R_slice HO_3.out
         subst eo17
         have q16 : (1 : Int) ≤ ((t102.length : Int) : Int) := of_decide_eq_true zgglam
         obtain ⟨i016, hi016, _, hsz16, _⟩ := info_parts info9
         have hroom16 : t102.length ≤ co17 := (Kd.R_reads' HO_3.out).2.1
         have hC16 : Kd.C Kd.string _ Ao17 t102.length t102 := (Kd.R_reads' HO_3.out).2.2
         have hcut16 := cut_from (P := Tryd.prog) 81 9 .i64 Tryd.underlying81 hi016 1 hsz16 Ao17 t102.length co17 1 (by omega) q16
         have hr16 := Kd.C_drop (m := (1 : Int).toNat) (c := co17) hC16 (by omega) hroom16
         obtain ⟨A16, hA16⟩ : ∃ A1, A1 = (if co17 = (1 : Int).toNat then Ao17 else (Ao17 : Option Addr).map (·.add ((1 : Int).toNat * 1))) := ⟨_, rfl⟩
         obtain ⟨c16, hc16⟩ : ∃ c1, c1 = co17 - (1 : Int).toNat := ⟨_, rfl⟩
         have hy16 : y106.length = t102.length - (1 : Int).toNat := (by rw [Ny106.out, List.length_drop] <;> omega)
         rw [show (t102).drop (1 : Int).toNat = y106 from Ny106.out.symm] at hr16
         replace hr16 : Kd.C Kd.string _ A16 y106.length y106 := (by rw [hA16]; exact hr16)
         rw [← hy16, ← hA16, ← hc16] at hcut16
         have HR109 := aa hr16
         have HC109 := aa (show y106.length ≤ c16 from by rw [hy16, hc16]; exact Nat.sub_le_sub_right hroom16 _)
         clear hr16 hC16 hroom16 hi016 hsz16 hc16
         have KY16 := aa hy16
         have KA16 := aa hA16
         clear hy16 hA16
         have KL16 := aa (show 1 ≤ t102.length from by omega)
         replace q16 := eq_true q16
         go_wp2
         go_loopg [30] kj7 (fun kq v30 w' => ∃ (x30_3 : Int), v30 = .int .i64 x30_3 ∧ Aside0 (impl_PathFault.l0 kq y106 (y106.length : Int) x30_3 = some r) ∧ Aside0 (kq ≤ kj7) ∧ Aside0 (Kd.C Kd.string w' A16 y106.length y106) ∧ Aside0 (Below w.heap.size w w'))
         case atStart => exact ⟨(0), zagbkp, H', ⟨Nat.le_refl _⟩, ⟨by repeat (first | (with_reducible exact HR109.out) | (with_reducible refine Kd.C_alloc ?_ _) | (with_reducible refine Kd.C_drewN ?_ _) | (with_reducible refine Kd.C_drew ?_) | exact HR109.out)⟩, ⟨by repeat (first | (with_reducible first | exact HB.out | apply below_alloc | apply pw_below_drewN | apply below_drew1) | exact HB.out)⟩⟩
         case round =>
          clear H'
          try clear c1
          try clear p1
          try clear q1
          try clear hx1
          try clear qi1
          try clear p2
          try clear c3
          try clear c3b0
          try clear c3b1
          try clear c3b2
          try clear c5
          try clear c6
          try clear c6b0
          try clear c6b1
          try clear c7
          try clear c10
          try clear c10b0
          try clear c10b1
          try clear c10b2
          try clear p10
          try clear q10
          try clear hx10
          try clear qi10
          try clear c12
          try clear c12b0
          try clear c12b1
          try clear c14
          try clear c15
          try clear c15b0
          try clear c15b1
          try clear c16
          try clear q16
          try clear hx105_0
          try clear p1
          try clear p10
          try clear p105
          try clear p2
          try clear q1
          try clear q10
          try clear q105
          try clear q16
          obtain ⟨x30_3, rfl, HA, HK3, HR109, HB⟩ := hrel
          cases gk with
          | zero => exact absurd HA.out (by simp [impl_PathFault.l0])
          | succ k3 =>
           have H := HA.out
           clear HA
           simp only [impl_PathFault.l0] at H
           by_cases c18 : x30_3 < (y106.length : Int)
           ·
            rw [if_pos c18] at H
            have c18b0 : decide (x30_3 < (y106.length : Int)) = true := decide_eq_true c18
            clear c18
            by_cases c19 : 0 ≤ x30_3
            ·
             rw [if_pos c19] at H
             have c19b0 : decide (0 ≤ x30_3) = true := decide_eq_true c19
             clear c19
             by_cases c20 : x30_3 < (y106.length : Int)
             ·
              rw [if_pos c20] at H
              have c20b0 : decide (x30_3 < (y106.length : Int)) = true := decide_eq_true c20
              clear c20
              replace H := Option.bind_eq_some_iff.mp H
              obtain ⟨t111, A210, H⟩ := H
              replace H : (if t111 = true then (impl_PathFault.l0 k3 y106 (y106.length : Int) (wrap64 (x30_3 + 1))) else (some 5)) = some r := H
              have A21 := aa A210
              clear A210
              by_cases c22 : t111 = true
              ·
               subst c22
               have H1 : (impl_PathFault.l0 k3 y106 (y106.length : Int) (wrap64 (x30_3 + 1))) = some r := by rw [if_pos rfl] at H; exact H
               clear H
               have H := H1
               clear H1
               have H' := aa H
               clear H
               have p110 : 0 ≤ (x30_3 : Int) := of_decide_eq_true zgglam
               have q110 : x30_3 < (y106.length : Int) := of_decide_eq_true zgglam
               obtain ⟨ad110, e110, hx110_0⟩ := Kd.at_string HR109.out x30_3 p110 q110
               cases e110
               replace p110 := eq_true p110
               replace q110 := eq_true q110
               go_wp2_with (first | ((with_reducible refine gate_callee (f := 71) rfl ?_); refine goesL_ (some 35) rfl rfl Tryd.func71 (by kernel_rfl) rfl #[.string (rdOf ByteArray.empty y106 x30_3)] rfl zjnmae ?_; (with_reducible refine (impl_isName.calls k3 (rdOf ByteArray.empty y106 x30_3) true _ A21.out).mono ?_); rintro e w' ⟨rfl, ⟨nd, rfl⟩⟩; refine ⟨_, rfl, ?_⟩))
               go_roundg k3
               case measure => have := HJ1.out; have := HJ7.out; have := HK3.out; omega
               case rel => exact ⟨(wrap64 (x30_3 + 1)), zagbkp, H', ⟨by have := HJ1.out; have := HJ7.out; have := HK3.out; omega⟩, ⟨by repeat (first | (with_reducible exact HR109.out) | (with_reducible refine Kd.C_alloc ?_ _) | (with_reducible refine Kd.C_drewN ?_ _) | (with_reducible refine Kd.C_drew ?_) | exact HR109.out)⟩, ⟨by repeat (first | (with_reducible first | exact HB.out | apply below_alloc | apply pw_below_drewN | apply below_drew1) | exact HB.out)⟩⟩
              ·
               replace c22 := Bool.eq_false_iff.mpr c22
               subst c22
               have H1 : (some 5) = some r := by rw [if_neg (show ¬ (false = true) by decide)] at H; exact H
               clear H
               have H := H1
               clear H1
               obtain rfl := Option.some.inj H
               have p110 : 0 ≤ (x30_3 : Int) := of_decide_eq_true zgglam
               have q110 : x30_3 < (y106.length : Int) := of_decide_eq_true zgglam
               obtain ⟨ad110, e110, hx110_0⟩ := Kd.at_string HR109.out x30_3 p110 q110
               cases e110
               replace p110 := eq_true p110
               replace q110 := eq_true q110
               go_wp2_with (first | ((with_reducible refine gate_callee (f := 71) rfl ?_); refine goesL_ (some 35) rfl rfl Tryd.func71 (by kernel_rfl) rfl #[.string (rdOf ByteArray.empty y106 x30_3)] rfl zjnmae ?_; (with_reducible refine (impl_isName.calls k3 (rdOf ByteArray.empty y106 x30_3) false _ A21.out).mono ?_); rintro e w' ⟨rfl, ⟨nd, rfl⟩⟩; refine ⟨_, rfl, ?_⟩))
               go_ret
               exact ⟨by first | rfl | (simp [errW_none, errW_some] <;> rfl) | (simp [*, errW_none, errW_some] <;> rfl), by repeat (first | (with_reducible first | exact HB.out | apply below_alloc | apply pw_below_drewN | apply below_drew1) | exact HB.out)⟩
             ·
              rw [if_neg c20] at H
              exact absurd H (by simp)
            ·
             rw [if_neg c19] at H
             exact absurd H (by simp)
           ·
            rw [if_neg c18] at H
            have c18b0 : decide (x30_3 < (y106.length : Int)) = false := decide_eq_false c18
            clear c18
            obtain rfl := Option.some.inj H
            go_wp2
            go_ret
            exact ⟨by first | rfl | (simp [errW_none, errW_some] <;> rfl) | (simp [*, errW_none, errW_some] <;> rfl), by repeat (first | (with_reducible first | exact HB.out | apply below_alloc | apply pw_below_drewN | apply below_drew1) | exact HB.out)⟩
        ·
         rw [if_neg c15] at H
         exact absurd H (by simp)

end Go.Proofs.YtajlnffefoeppaaDoor.Qa

-- By gp.py (wip/gen of the work's repo), a program of this workplace over the kit's print: Lean checks it.
namespace Go.Proofs.YtajlnffefoeppaaDoor.Qa
open Go.RowKit Go.Proofs.YtajlnffefoeppaaDoorW.PrintWords Go.Proofs.YtajlnffefoeppaaDoorW.PrintLast Go.Proofs.YtajlnffefoeppaaDoorW.PrintMore
attribute [local go_sem] max2_int min2_int max_two min_two max_three min_three max_four min_four   -- for this text's walks alone
set_option linter.unusedVariables false
set_option linter.unusedSimpArgs false
set_option maxHeartbeats 8000000
set_option maxRecDepth 100000

/-! ### impl_isData: function 55 -/
def impl_isData.f (a0 : Int) : Option (Bool) := (impl_within.f a0 0 9999).bind fun t101 => (some t101)
theorem impl_isData.calls (a0 : Int) (r : Bool) (w : World) (h : impl_isData.f a0 = some r) :
  Calls Tryd.prog 55 #[.int .i64 a0] w fun e w' => e = .returned (.bool r) ∧ Drawn0 w w' := by
 have H : ((impl_within.f a0 0 9999).bind fun t101 => (some t101)) = some r := h
 clear h
 replace H := Option.bind_eq_some_iff.mp H
 obtain ⟨t101, A20, H⟩ := H
 replace H : (some t101) = some r := H
 have A2 := aa A20
 clear A20
 obtain rfl := Option.some.inj H
 go_enter Tryd.func55, Tryd.ntmps55
 go_wp2_with (first | ((with_reducible refine gate_callee (f := 56) rfl ?_); refine goesL_ (some 4) rfl rfl Tryd.func56 (by kernel_rfl) rfl #[.int .i64 a0, .int .i64 0, .int .i64 9999] rfl zjnmae ?_; (with_reducible refine (impl_within.calls a0 0 9999 t101 _ A2.out).mono ?_); rintro e w' ⟨rfl, ⟨nd, rfl⟩⟩; refine ⟨_, rfl, ?_⟩))
 go_ret
 exact ⟨by first | rfl | (simp; done) | (simp [*]; done), by repeat (first | exact Drawn0.refl _ | apply Drawn0.step)⟩

end Go.Proofs.YtajlnffefoeppaaDoor.Qa

-- By gp.py (wip/gen of the work's repo), a program of this workplace over the kit's print: Lean checks it.
namespace Go.Proofs.YtajlnffefoeppaaDoor.Qa
open Go.RowKit Go.Proofs.YtajlnffefoeppaaDoorW.PrintWords Go.Proofs.YtajlnffefoeppaaDoorW.PrintLast Go.Proofs.YtajlnffefoeppaaDoorW.PrintMore
attribute [local go_sem] max2_int min2_int max_two min_two max_three min_three max_four min_four   -- for this text's walks alone
set_option linter.unusedVariables false
set_option linter.unusedSimpArgs false
set_option maxHeartbeats 8000000
set_option maxRecDepth 100000

/-! ### impl_isOwner: function 57 -/
def impl_isOwner.f (a0 : Int) : Option (Bool) := (impl_within.f a0 0 9).bind fun t101 => (some t101)
theorem impl_isOwner.calls (a0 : Int) (r : Bool) (w : World) (h : impl_isOwner.f a0 = some r) :
  Calls Tryd.prog 57 #[.int .i64 a0] w fun e w' => e = .returned (.bool r) ∧ Drawn0 w w' := by
 have H : ((impl_within.f a0 0 9).bind fun t101 => (some t101)) = some r := h
 clear h
 replace H := Option.bind_eq_some_iff.mp H
 obtain ⟨t101, A20, H⟩ := H
 replace H : (some t101) = some r := H
 have A2 := aa A20
 clear A20
 obtain rfl := Option.some.inj H
 go_enter Tryd.func57, Tryd.ntmps57
 go_wp2_with (first | ((with_reducible refine gate_callee (f := 56) rfl ?_); refine goesL_ (some 4) rfl rfl Tryd.func56 (by kernel_rfl) rfl #[.int .i64 a0, .int .i64 0, .int .i64 9] rfl zjnmae ?_; (with_reducible refine (impl_within.calls a0 0 9 t101 _ A2.out).mono ?_); rintro e w' ⟨rfl, ⟨nd, rfl⟩⟩; refine ⟨_, rfl, ?_⟩))
 go_ret
 exact ⟨by first | rfl | (simp; done) | (simp [*]; done), by repeat (first | exact Drawn0.refl _ | apply Drawn0.step)⟩

end Go.Proofs.YtajlnffefoeppaaDoor.Qa

-- By gp.py (wip/gen of the work's repo), a program of this workplace over the kit's print: Lean checks it.
namespace Go.Proofs.YtajlnffefoeppaaDoor.Qa
open Go.RowKit Go.Proofs.YtajlnffefoeppaaDoorW.PrintWords Go.Proofs.YtajlnffefoeppaaDoorW.PrintLast Go.Proofs.YtajlnffefoeppaaDoorW.PrintMore
attribute [local go_sem] max2_int min2_int max_two min_two max_three min_three max_four min_four   -- for this text's walks alone
set_option linter.unusedVariables false
set_option linter.unusedSimpArgs false
set_option maxHeartbeats 8000000
set_option maxRecDepth 100000

/-! ### impl_nodeFault: function 37 -/
def impl_nodeFault.f (k : Nat) (a0_0 : ByteArray) (a0_1 : Int) (a0_2 : Int) (a0_3 : Int) (a0_4 : Int) : Option (Int) := (impl_PathFault.f k a0_0).bind fun t102 => (if t102 = 0 then ((impl_isData.f a0_1).bind fun t103 => (if t103 = true then ((impl_within.f a0_2 0 999).bind fun t104 => (if t104 = true then ((impl_isOwner.f a0_3).bind fun t105 => (if t105 = true then ((impl_within.f a0_4 0 100).bind fun t106 => (if t106 = true then (some 0) else (some 3))) else (some 3))) else (some 3))) else (some 3))) else (some t102))
theorem impl_nodeFault.mono : ∀ a0 a1 a2 a3 a4 k, LeO (impl_nodeFault.f k a0 a1 a2 a3 a4) (impl_nodeFault.f (k + 1) a0 a1 a2 a3 a4) := by
 intro a0 a1 a2 a3 a4 k
 unfold impl_nodeFault.f
 repeat' first
   | (with_reducible exact impl_PathFault.mono _ _)
   | (with_reducible exact LeO.refl _)
   | (with_reducible exact LeO.none _)
   | (with_reducible refine LeO.ite ?_ ?_)
   | (with_reducible refine LeO.bind ?_ (fun _ => ?_))
   | exact impl_PathFault.mono _ _
   | exact LeO.none _
   | refine LeO.ite ?_ ?_
   | refine LeO.bind ?_ (fun _ => ?_)
theorem impl_nodeFault.calls (k : Nat) (a0_0 : ByteArray) (a0_1 : Int) (a0_2 : Int) (a0_3 : Int) (a0_4 : Int) (r : Int) (w : World) (h : impl_nodeFault.f k a0_0 a0_1 a0_2 a0_3 a0_4 = some r) :
  Calls Tryd.prog 37 #[.agg #[.string a0_0, .int .i64 a0_1, .int .i64 a0_2, .int .i64 a0_3, .int .i64 a0_4]] w fun e w' => e = .returned (.int .i64 r) ∧ Below w.heap.size w w' := by
 have hu44 := Tryd.underlying44
 have HB := aa (Below.refl w.heap.size w)
 have H : ((impl_PathFault.f k a0_0).bind fun t102 => (if t102 = 0 then ((impl_isData.f a0_1).bind fun t103 => (if t103 = true then ((impl_within.f a0_2 0 999).bind fun t104 => (if t104 = true then ((impl_isOwner.f a0_3).bind fun t105 => (if t105 = true then ((impl_within.f a0_4 0 100).bind fun t106 => (if t106 = true then (some 0) else (some 3))) else (some 3))) else (some 3))) else (some 3))) else (some t102))) = some r := h
 clear h
 replace H := Option.bind_eq_some_iff.mp H
 obtain ⟨t102, A20, H⟩ := H
 replace H : (if t102 = 0 then ((impl_isData.f a0_1).bind fun t103 => (if t103 = true then ((impl_within.f a0_2 0 999).bind fun t104 => (if t104 = true then ((impl_isOwner.f a0_3).bind fun t105 => (if t105 = true then ((impl_within.f a0_4 0 100).bind fun t106 => (if t106 = true then (some 0) else (some 3))) else (some 3))) else (some 3))) else (some 3))) else (some t102)) = some r := H
 have A2 := aa A20
 clear A20
 by_cases c3 : t102 = 0
 ·
  rw [if_pos c3] at H
  have c3b0 : (t102 == 0) = true := beq_iff_eq.mpr c3
  have c3b1 : (t102 != 0) = false := bne_eq_false_iff_eq.mpr c3
  clear c3
  replace H := Option.bind_eq_some_iff.mp H
  obtain ⟨t103, A40, H⟩ := H
  replace H : (if t103 = true then ((impl_within.f a0_2 0 999).bind fun t104 => (if t104 = true then ((impl_isOwner.f a0_3).bind fun t105 => (if t105 = true then ((impl_within.f a0_4 0 100).bind fun t106 => (if t106 = true then (some 0) else (some 3))) else (some 3))) else (some 3))) else (some 3)) = some r := H
  have A4 := aa A40
  clear A40
  by_cases c5 : t103 = true
  ·
   subst c5
   have H1 : ((impl_within.f a0_2 0 999).bind fun t104 => (if t104 = true then ((impl_isOwner.f a0_3).bind fun t105 => (if t105 = true then ((impl_within.f a0_4 0 100).bind fun t106 => (if t106 = true then (some 0) else (some 3))) else (some 3))) else (some 3))) = some r := by rw [if_pos rfl] at H; exact H
   clear H
   have H := H1
   clear H1
   replace H := Option.bind_eq_some_iff.mp H
   obtain ⟨t104, A60, H⟩ := H
   replace H : (if t104 = true then ((impl_isOwner.f a0_3).bind fun t105 => (if t105 = true then ((impl_within.f a0_4 0 100).bind fun t106 => (if t106 = true then (some 0) else (some 3))) else (some 3))) else (some 3)) = some r := H
   have A6 := aa A60
   clear A60
   by_cases c7 : t104 = true
   ·
    subst c7
    have H1 : ((impl_isOwner.f a0_3).bind fun t105 => (if t105 = true then ((impl_within.f a0_4 0 100).bind fun t106 => (if t106 = true then (some 0) else (some 3))) else (some 3))) = some r := by rw [if_pos rfl] at H; exact H
    clear H
    have H := H1
    clear H1
    replace H := Option.bind_eq_some_iff.mp H
    obtain ⟨t105, A80, H⟩ := H
    replace H : (if t105 = true then ((impl_within.f a0_4 0 100).bind fun t106 => (if t106 = true then (some 0) else (some 3))) else (some 3)) = some r := H
    have A8 := aa A80
    clear A80
    by_cases c9 : t105 = true
    ·
     subst c9
     have H1 : ((impl_within.f a0_4 0 100).bind fun t106 => (if t106 = true then (some 0) else (some 3))) = some r := by rw [if_pos rfl] at H; exact H
     clear H
     have H := H1
     clear H1
     replace H := Option.bind_eq_some_iff.mp H
     obtain ⟨t106, A100, H⟩ := H
     replace H : (if t106 = true then (some 0) else (some 3)) = some r := H
     have A10 := aa A100
     clear A100
     by_cases c11 : t106 = true
     ·
      subst c11
      have H1 : (some 0) = some r := by rw [if_pos rfl] at H; exact H
      clear H
      have H := H1
      clear H1
      obtain rfl := Option.some.inj H
      go_enter Tryd.func37, Tryd.ntmps37
      go_wp2_with (first | ((with_reducible refine gate_dst (N := 1) rfl ?_); refine box_event ?hg (N := 1) ?hd (cs := #[.string a0_0, .int .i64 a0_1, .int .i64 a0_2, .int .i64 a0_3, .int .i64 a0_4]) (t := 44) ?hr ?_; (case hd => rfl); (case hg => rfl); (case hr => exact zhlgcp); intro gb101 hg w12 hbox hb; have n0_ := aa (below_step zjjbob hb); have n1_ := aa (hbox); have n2_ := aa ((zkpfjp : w.heap.size ≤ gb101)); have n3_ := aa ((zkpfjp : w.heap.size ≤ gb101)); clear HB; have HB := n0_; have BK101 := n1_; have GW101 := n2_; have GE101 := n3_; clear n0_ n1_ n2_ n3_; clear hb hbox hg; have hcz13_0 : w12.cell? ⟨gb101, 0, none⟩ = some (.string a0_0) := (blk_cell BK101.out 0).trans rfl; have hcz13_1 : w12.cell? ⟨gb101, 1, none⟩ = some (.int .i64 a0_1) := (blk_cell BK101.out 1).trans rfl; have hcz13_2 : w12.cell? ⟨gb101, 2, none⟩ = some (.int .i64 a0_2) := (blk_cell BK101.out 2).trans rfl; have hcz13_3 : w12.cell? ⟨gb101, 3, none⟩ = some (.int .i64 a0_3) := (blk_cell BK101.out 3).trans rfl; have hcz13_4 : w12.cell? ⟨gb101, 4, none⟩ = some (.int .i64 a0_4) := (blk_cell BK101.out 4).trans rfl; have hfz13_0 := blk_frozen BK101.out 0; have hfz13_1 := blk_frozen BK101.out 1; have hfz13_2 := blk_frozen BK101.out 2; have hfz13_3 := blk_frozen BK101.out 3; have hfz13_4 := blk_frozen BK101.out 4) | ((with_reducible refine gate_callee (f := 52) rfl ?_); refine goesL_ (some 6) rfl rfl Tryd.func52 (by kernel_rfl) rfl #[.string a0_0] rfl zjnmae ?_; (with_reducible refine (impl_PathFault.calls k a0_0 t102 _ A2.out).mono ?_); rintro e w14 ⟨rfl, hb⟩; refine ⟨_, rfl, ?_⟩; have n0_ := aa (blk_below (g := gb101) (o := .cells #[.string a0_0, .int .i64 a0_1, .int .i64 a0_2, .int .i64 a0_3, .int .i64 a0_4] 44 (0, 0)) (zkjhpm BK101.out) hb); have n1_ := aa (below_step zkmbdh hb); clear BK101; clear HB; have BK101 := n0_; have HB := n1_; clear n0_ n1_; (try clear hb); (try clear hb2); (try clear hk); (try clear hi); have hcz15_0 : w14.cell? ⟨gb101, 0, none⟩ = some (.string a0_0) := (blk_cell BK101.out 0).trans rfl; have hcz15_1 : w14.cell? ⟨gb101, 1, none⟩ = some (.int .i64 a0_1) := (blk_cell BK101.out 1).trans rfl; have hcz15_2 : w14.cell? ⟨gb101, 2, none⟩ = some (.int .i64 a0_2) := (blk_cell BK101.out 2).trans rfl; have hcz15_3 : w14.cell? ⟨gb101, 3, none⟩ = some (.int .i64 a0_3) := (blk_cell BK101.out 3).trans rfl; have hcz15_4 : w14.cell? ⟨gb101, 4, none⟩ = some (.int .i64 a0_4) := (blk_cell BK101.out 4).trans rfl; have hfz15_0 := blk_frozen BK101.out 0; have hfz15_1 := blk_frozen BK101.out 1; have hfz15_2 := blk_frozen BK101.out 2; have hfz15_3 := blk_frozen BK101.out 3; have hfz15_4 := blk_frozen BK101.out 4) | ((with_reducible refine gate_callee (f := 55) rfl ?_); refine goesL_ (some 12) rfl rfl Tryd.func55 (by kernel_rfl) rfl #[.int .i64 a0_1] rfl zjnmae ?_; (with_reducible refine (impl_isData.calls a0_1 true _ A4.out).mono ?_); rintro e w' ⟨rfl, ⟨nd, rfl⟩⟩; refine ⟨_, rfl, ?_⟩) | (go_at_call 56; (with_reducible refine (impl_within.calls a0_2 0 999 true _ A6.out).mono ?_); rintro e w' ⟨rfl, ⟨nd, rfl⟩⟩) | (go_at_call 57; (with_reducible refine (impl_isOwner.calls a0_3 true _ A8.out).mono ?_); rintro e w' ⟨rfl, ⟨nd, rfl⟩⟩) | (go_at_call 56; (with_reducible refine (impl_within.calls a0_4 0 100 true _ A10.out).mono ?_); rintro e w' ⟨rfl, ⟨nd, rfl⟩⟩))
      go_ret
      exact ⟨by first | rfl | (simp [errW_none, errW_some] <;> rfl) | (simp [*, errW_none, errW_some] <;> rfl), by repeat (first | (with_reducible first | exact HB.out | apply below_alloc | apply pw_below_drewN | apply below_drew1 | refine below_set ?_ GE101.out) | exact HB.out)⟩
     ·
      replace c11 := Bool.eq_false_iff.mpr c11
      subst c11
      have H1 : (some 3) = some r := by rw [if_neg (show ¬ (false = true) by decide)] at H; exact H
      clear H
      have H := H1
      clear H1
      obtain rfl := Option.some.inj H
      go_enter Tryd.func37, Tryd.ntmps37
      go_wp2_with (first | ((with_reducible refine gate_dst (N := 1) rfl ?_); refine box_event ?hg (N := 1) ?hd (cs := #[.string a0_0, .int .i64 a0_1, .int .i64 a0_2, .int .i64 a0_3, .int .i64 a0_4]) (t := 44) ?hr ?_; (case hd => rfl); (case hg => rfl); (case hr => exact zhlgcp); intro gb101 hg w16 hbox hb; have n0_ := aa (below_step zjjbob hb); have n1_ := aa (hbox); have n2_ := aa ((zkpfjp : w.heap.size ≤ gb101)); have n3_ := aa ((zkpfjp : w.heap.size ≤ gb101)); clear HB; have HB := n0_; have BK101 := n1_; have GW101 := n2_; have GE101 := n3_; clear n0_ n1_ n2_ n3_; clear hb hbox hg; have hcz17_0 : w16.cell? ⟨gb101, 0, none⟩ = some (.string a0_0) := (blk_cell BK101.out 0).trans rfl; have hcz17_1 : w16.cell? ⟨gb101, 1, none⟩ = some (.int .i64 a0_1) := (blk_cell BK101.out 1).trans rfl; have hcz17_2 : w16.cell? ⟨gb101, 2, none⟩ = some (.int .i64 a0_2) := (blk_cell BK101.out 2).trans rfl; have hcz17_3 : w16.cell? ⟨gb101, 3, none⟩ = some (.int .i64 a0_3) := (blk_cell BK101.out 3).trans rfl; have hcz17_4 : w16.cell? ⟨gb101, 4, none⟩ = some (.int .i64 a0_4) := (blk_cell BK101.out 4).trans rfl; have hfz17_0 := blk_frozen BK101.out 0; have hfz17_1 := blk_frozen BK101.out 1; have hfz17_2 := blk_frozen BK101.out 2; have hfz17_3 := blk_frozen BK101.out 3; have hfz17_4 := blk_frozen BK101.out 4) | ((with_reducible refine gate_callee (f := 52) rfl ?_); refine goesL_ (some 6) rfl rfl Tryd.func52 (by kernel_rfl) rfl #[.string a0_0] rfl zjnmae ?_; (with_reducible refine (impl_PathFault.calls k a0_0 t102 _ A2.out).mono ?_); rintro e w18 ⟨rfl, hb⟩; refine ⟨_, rfl, ?_⟩; have n0_ := aa (blk_below (g := gb101) (o := .cells #[.string a0_0, .int .i64 a0_1, .int .i64 a0_2, .int .i64 a0_3, .int .i64 a0_4] 44 (0, 0)) (zkjhpm BK101.out) hb); have n1_ := aa (below_step zkmbdh hb); clear BK101; clear HB; have BK101 := n0_; have HB := n1_; clear n0_ n1_; (try clear hb); (try clear hb2); (try clear hk); (try clear hi); have hcz19_0 : w18.cell? ⟨gb101, 0, none⟩ = some (.string a0_0) := (blk_cell BK101.out 0).trans rfl; have hcz19_1 : w18.cell? ⟨gb101, 1, none⟩ = some (.int .i64 a0_1) := (blk_cell BK101.out 1).trans rfl; have hcz19_2 : w18.cell? ⟨gb101, 2, none⟩ = some (.int .i64 a0_2) := (blk_cell BK101.out 2).trans rfl; have hcz19_3 : w18.cell? ⟨gb101, 3, none⟩ = some (.int .i64 a0_3) := (blk_cell BK101.out 3).trans rfl; have hcz19_4 : w18.cell? ⟨gb101, 4, none⟩ = some (.int .i64 a0_4) := (blk_cell BK101.out 4).trans rfl; have hfz19_0 := blk_frozen BK101.out 0; have hfz19_1 := blk_frozen BK101.out 1; have hfz19_2 := blk_frozen BK101.out 2; have hfz19_3 := blk_frozen BK101.out 3; have hfz19_4 := blk_frozen BK101.out 4) | ((with_reducible refine gate_callee (f := 55) rfl ?_); refine goesL_ (some 12) rfl rfl Tryd.func55 (by kernel_rfl) rfl #[.int .i64 a0_1] rfl zjnmae ?_; (with_reducible refine (impl_isData.calls a0_1 true _ A4.out).mono ?_); rintro e w' ⟨rfl, ⟨nd, rfl⟩⟩; refine ⟨_, rfl, ?_⟩) | (go_at_call 56; (with_reducible refine (impl_within.calls a0_2 0 999 true _ A6.out).mono ?_); rintro e w' ⟨rfl, ⟨nd, rfl⟩⟩) | (go_at_call 57; (with_reducible refine (impl_isOwner.calls a0_3 true _ A8.out).mono ?_); rintro e w' ⟨rfl, ⟨nd, rfl⟩⟩) | (go_at_call 56; (with_reducible refine (impl_within.calls a0_4 0 100 false _ A10.out).mono ?_); rintro e w' ⟨rfl, ⟨nd, rfl⟩⟩))
      go_ret
      exact ⟨by first | rfl | (simp [errW_none, errW_some] <;> rfl) | (simp [*, errW_none, errW_some] <;> rfl), by repeat (first | (with_reducible first | exact HB.out | apply below_alloc | apply pw_below_drewN | apply below_drew1 | refine below_set ?_ GE101.out) | exact HB.out)⟩
    ·
     replace c9 := Bool.eq_false_iff.mpr c9
     subst c9
     have H1 : (some 3) = some r := by rw [if_neg (show ¬ (false = true) by decide)] at H; exact H
     clear H
     have H := H1
     clear H1
     obtain rfl := Option.some.inj H
     go_enter Tryd.func37, Tryd.ntmps37
     go_wp2_with (first | ((with_reducible refine gate_dst (N := 1) rfl ?_); refine box_event ?hg (N := 1) ?hd (cs := #[.string a0_0, .int .i64 a0_1, .int .i64 a0_2, .int .i64 a0_3, .int .i64 a0_4]) (t := 44) ?hr ?_; (case hd => rfl); (case hg => rfl); (case hr => exact zhlgcp); intro gb101 hg w20 hbox hb; have n0_ := aa (below_step zjjbob hb); have n1_ := aa (hbox); have n2_ := aa ((zkpfjp : w.heap.size ≤ gb101)); have n3_ := aa ((zkpfjp : w.heap.size ≤ gb101)); clear HB; have HB := n0_; have BK101 := n1_; have GW101 := n2_; have GE101 := n3_; clear n0_ n1_ n2_ n3_; clear hb hbox hg; have hcz21_0 : w20.cell? ⟨gb101, 0, none⟩ = some (.string a0_0) := (blk_cell BK101.out 0).trans rfl; have hcz21_1 : w20.cell? ⟨gb101, 1, none⟩ = some (.int .i64 a0_1) := (blk_cell BK101.out 1).trans rfl; have hcz21_2 : w20.cell? ⟨gb101, 2, none⟩ = some (.int .i64 a0_2) := (blk_cell BK101.out 2).trans rfl; have hcz21_3 : w20.cell? ⟨gb101, 3, none⟩ = some (.int .i64 a0_3) := (blk_cell BK101.out 3).trans rfl; have hcz21_4 : w20.cell? ⟨gb101, 4, none⟩ = some (.int .i64 a0_4) := (blk_cell BK101.out 4).trans rfl; have hfz21_0 := blk_frozen BK101.out 0; have hfz21_1 := blk_frozen BK101.out 1; have hfz21_2 := blk_frozen BK101.out 2; have hfz21_3 := blk_frozen BK101.out 3; have hfz21_4 := blk_frozen BK101.out 4) | ((with_reducible refine gate_callee (f := 52) rfl ?_); refine goesL_ (some 6) rfl rfl Tryd.func52 (by kernel_rfl) rfl #[.string a0_0] rfl zjnmae ?_; (with_reducible refine (impl_PathFault.calls k a0_0 t102 _ A2.out).mono ?_); rintro e w22 ⟨rfl, hb⟩; refine ⟨_, rfl, ?_⟩; have n0_ := aa (blk_below (g := gb101) (o := .cells #[.string a0_0, .int .i64 a0_1, .int .i64 a0_2, .int .i64 a0_3, .int .i64 a0_4] 44 (0, 0)) (zkjhpm BK101.out) hb); have n1_ := aa (below_step zkmbdh hb); clear BK101; clear HB; have BK101 := n0_; have HB := n1_; clear n0_ n1_; (try clear hb); (try clear hb2); (try clear hk); (try clear hi); have hcz23_0 : w22.cell? ⟨gb101, 0, none⟩ = some (.string a0_0) := (blk_cell BK101.out 0).trans rfl; have hcz23_1 : w22.cell? ⟨gb101, 1, none⟩ = some (.int .i64 a0_1) := (blk_cell BK101.out 1).trans rfl; have hcz23_2 : w22.cell? ⟨gb101, 2, none⟩ = some (.int .i64 a0_2) := (blk_cell BK101.out 2).trans rfl; have hcz23_3 : w22.cell? ⟨gb101, 3, none⟩ = some (.int .i64 a0_3) := (blk_cell BK101.out 3).trans rfl; have hcz23_4 : w22.cell? ⟨gb101, 4, none⟩ = some (.int .i64 a0_4) := (blk_cell BK101.out 4).trans rfl; have hfz23_0 := blk_frozen BK101.out 0; have hfz23_1 := blk_frozen BK101.out 1; have hfz23_2 := blk_frozen BK101.out 2; have hfz23_3 := blk_frozen BK101.out 3; have hfz23_4 := blk_frozen BK101.out 4) | ((with_reducible refine gate_callee (f := 55) rfl ?_); refine goesL_ (some 12) rfl rfl Tryd.func55 (by kernel_rfl) rfl #[.int .i64 a0_1] rfl zjnmae ?_; (with_reducible refine (impl_isData.calls a0_1 true _ A4.out).mono ?_); rintro e w' ⟨rfl, ⟨nd, rfl⟩⟩; refine ⟨_, rfl, ?_⟩) | (go_at_call 56; (with_reducible refine (impl_within.calls a0_2 0 999 true _ A6.out).mono ?_); rintro e w' ⟨rfl, ⟨nd, rfl⟩⟩) | (go_at_call 57; (with_reducible refine (impl_isOwner.calls a0_3 false _ A8.out).mono ?_); rintro e w' ⟨rfl, ⟨nd, rfl⟩⟩))
     go_ret
     exact ⟨by first | rfl | (simp [errW_none, errW_some] <;> rfl) | (simp [*, errW_none, errW_some] <;> rfl), by repeat (first | (with_reducible first | exact HB.out | apply below_alloc | apply pw_below_drewN | apply below_drew1 | refine below_set ?_ GE101.out) | exact HB.out)⟩
   ·
    replace c7 := Bool.eq_false_iff.mpr c7
    subst c7
    have H1 : (some 3) = some r := by rw [if_neg (show ¬ (false = true) by decide)] at H; exact H
    clear H
    have H := H1
    clear H1
    obtain rfl := Option.some.inj H
    go_enter Tryd.func37, Tryd.ntmps37
    go_wp2_with (first | ((with_reducible refine gate_dst (N := 1) rfl ?_); refine box_event ?hg (N := 1) ?hd (cs := #[.string a0_0, .int .i64 a0_1, .int .i64 a0_2, .int .i64 a0_3, .int .i64 a0_4]) (t := 44) ?hr ?_; (case hd => rfl); (case hg => rfl); (case hr => exact zhlgcp); intro gb101 hg w24 hbox hb; have n0_ := aa (below_step zjjbob hb); have n1_ := aa (hbox); have n2_ := aa ((zkpfjp : w.heap.size ≤ gb101)); have n3_ := aa ((zkpfjp : w.heap.size ≤ gb101)); clear HB; have HB := n0_; have BK101 := n1_; have GW101 := n2_; have GE101 := n3_; clear n0_ n1_ n2_ n3_; clear hb hbox hg; have hcz25_0 : w24.cell? ⟨gb101, 0, none⟩ = some (.string a0_0) := (blk_cell BK101.out 0).trans rfl; have hcz25_1 : w24.cell? ⟨gb101, 1, none⟩ = some (.int .i64 a0_1) := (blk_cell BK101.out 1).trans rfl; have hcz25_2 : w24.cell? ⟨gb101, 2, none⟩ = some (.int .i64 a0_2) := (blk_cell BK101.out 2).trans rfl; have hcz25_3 : w24.cell? ⟨gb101, 3, none⟩ = some (.int .i64 a0_3) := (blk_cell BK101.out 3).trans rfl; have hcz25_4 : w24.cell? ⟨gb101, 4, none⟩ = some (.int .i64 a0_4) := (blk_cell BK101.out 4).trans rfl; have hfz25_0 := blk_frozen BK101.out 0; have hfz25_1 := blk_frozen BK101.out 1; have hfz25_2 := blk_frozen BK101.out 2; have hfz25_3 := blk_frozen BK101.out 3; have hfz25_4 := blk_frozen BK101.out 4) | ((with_reducible refine gate_callee (f := 52) rfl ?_); refine goesL_ (some 6) rfl rfl Tryd.func52 (by kernel_rfl) rfl #[.string a0_0] rfl zjnmae ?_; (with_reducible refine (impl_PathFault.calls k a0_0 t102 _ A2.out).mono ?_); rintro e w26 ⟨rfl, hb⟩; refine ⟨_, rfl, ?_⟩; have n0_ := aa (blk_below (g := gb101) (o := .cells #[.string a0_0, .int .i64 a0_1, .int .i64 a0_2, .int .i64 a0_3, .int .i64 a0_4] 44 (0, 0)) (zkjhpm BK101.out) hb); have n1_ := aa (below_step zkmbdh hb); clear BK101; clear HB; have BK101 := n0_; have HB := n1_; clear n0_ n1_; (try clear hb); (try clear hb2); (try clear hk); (try clear hi); have hcz27_0 : w26.cell? ⟨gb101, 0, none⟩ = some (.string a0_0) := (blk_cell BK101.out 0).trans rfl; have hcz27_1 : w26.cell? ⟨gb101, 1, none⟩ = some (.int .i64 a0_1) := (blk_cell BK101.out 1).trans rfl; have hcz27_2 : w26.cell? ⟨gb101, 2, none⟩ = some (.int .i64 a0_2) := (blk_cell BK101.out 2).trans rfl; have hcz27_3 : w26.cell? ⟨gb101, 3, none⟩ = some (.int .i64 a0_3) := (blk_cell BK101.out 3).trans rfl; have hcz27_4 : w26.cell? ⟨gb101, 4, none⟩ = some (.int .i64 a0_4) := (blk_cell BK101.out 4).trans rfl; have hfz27_0 := blk_frozen BK101.out 0; have hfz27_1 := blk_frozen BK101.out 1; have hfz27_2 := blk_frozen BK101.out 2; have hfz27_3 := blk_frozen BK101.out 3; have hfz27_4 := blk_frozen BK101.out 4) | ((with_reducible refine gate_callee (f := 55) rfl ?_); refine goesL_ (some 12) rfl rfl Tryd.func55 (by kernel_rfl) rfl #[.int .i64 a0_1] rfl zjnmae ?_; (with_reducible refine (impl_isData.calls a0_1 true _ A4.out).mono ?_); rintro e w' ⟨rfl, ⟨nd, rfl⟩⟩; refine ⟨_, rfl, ?_⟩) | (go_at_call 56; (with_reducible refine (impl_within.calls a0_2 0 999 false _ A6.out).mono ?_); rintro e w' ⟨rfl, ⟨nd, rfl⟩⟩))
    go_ret
    exact ⟨by first | rfl | (simp [errW_none, errW_some] <;> rfl) | (simp [*, errW_none, errW_some] <;> rfl), by repeat (first | (with_reducible first | exact HB.out | apply below_alloc | apply pw_below_drewN | apply below_drew1 | refine below_set ?_ GE101.out) | exact HB.out)⟩
  ·
   replace c5 := Bool.eq_false_iff.mpr c5
   subst c5
   have H1 : (some 3) = some r := by rw [if_neg (show ¬ (false = true) by decide)] at H; exact H
   clear H
   have H := H1
   clear H1
   obtain rfl := Option.some.inj H
   go_enter Tryd.func37, Tryd.ntmps37
   go_wp2_with (first | ((with_reducible refine gate_dst (N := 1) rfl ?_); refine box_event ?hg (N := 1) ?hd (cs := #[.string a0_0, .int .i64 a0_1, .int .i64 a0_2, .int .i64 a0_3, .int .i64 a0_4]) (t := 44) ?hr ?_; (case hd => rfl); (case hg => rfl); (case hr => exact zhlgcp); intro gb101 hg w28 hbox hb; have n0_ := aa (below_step zjjbob hb); have n1_ := aa (hbox); have n2_ := aa ((zkpfjp : w.heap.size ≤ gb101)); have n3_ := aa ((zkpfjp : w.heap.size ≤ gb101)); clear HB; have HB := n0_; have BK101 := n1_; have GW101 := n2_; have GE101 := n3_; clear n0_ n1_ n2_ n3_; clear hb hbox hg; have hcz29_0 : w28.cell? ⟨gb101, 0, none⟩ = some (.string a0_0) := (blk_cell BK101.out 0).trans rfl; have hcz29_1 : w28.cell? ⟨gb101, 1, none⟩ = some (.int .i64 a0_1) := (blk_cell BK101.out 1).trans rfl; have hcz29_2 : w28.cell? ⟨gb101, 2, none⟩ = some (.int .i64 a0_2) := (blk_cell BK101.out 2).trans rfl; have hcz29_3 : w28.cell? ⟨gb101, 3, none⟩ = some (.int .i64 a0_3) := (blk_cell BK101.out 3).trans rfl; have hcz29_4 : w28.cell? ⟨gb101, 4, none⟩ = some (.int .i64 a0_4) := (blk_cell BK101.out 4).trans rfl; have hfz29_0 := blk_frozen BK101.out 0; have hfz29_1 := blk_frozen BK101.out 1; have hfz29_2 := blk_frozen BK101.out 2; have hfz29_3 := blk_frozen BK101.out 3; have hfz29_4 := blk_frozen BK101.out 4) | ((with_reducible refine gate_callee (f := 52) rfl ?_); refine goesL_ (some 6) rfl rfl Tryd.func52 (by kernel_rfl) rfl #[.string a0_0] rfl zjnmae ?_; (with_reducible refine (impl_PathFault.calls k a0_0 t102 _ A2.out).mono ?_); rintro e w30 ⟨rfl, hb⟩; refine ⟨_, rfl, ?_⟩; have n0_ := aa (blk_below (g := gb101) (o := .cells #[.string a0_0, .int .i64 a0_1, .int .i64 a0_2, .int .i64 a0_3, .int .i64 a0_4] 44 (0, 0)) (zkjhpm BK101.out) hb); have n1_ := aa (below_step zkmbdh hb); clear BK101; clear HB; have BK101 := n0_; have HB := n1_; clear n0_ n1_; (try clear hb); (try clear hb2); (try clear hk); (try clear hi); have hcz31_0 : w30.cell? ⟨gb101, 0, none⟩ = some (.string a0_0) := (blk_cell BK101.out 0).trans rfl; have hcz31_1 : w30.cell? ⟨gb101, 1, none⟩ = some (.int .i64 a0_1) := (blk_cell BK101.out 1).trans rfl; have hcz31_2 : w30.cell? ⟨gb101, 2, none⟩ = some (.int .i64 a0_2) := (blk_cell BK101.out 2).trans rfl; have hcz31_3 : w30.cell? ⟨gb101, 3, none⟩ = some (.int .i64 a0_3) := (blk_cell BK101.out 3).trans rfl; have hcz31_4 : w30.cell? ⟨gb101, 4, none⟩ = some (.int .i64 a0_4) := (blk_cell BK101.out 4).trans rfl; have hfz31_0 := blk_frozen BK101.out 0; have hfz31_1 := blk_frozen BK101.out 1; have hfz31_2 := blk_frozen BK101.out 2; have hfz31_3 := blk_frozen BK101.out 3; have hfz31_4 := blk_frozen BK101.out 4) | ((with_reducible refine gate_callee (f := 55) rfl ?_); refine goesL_ (some 12) rfl rfl Tryd.func55 (by kernel_rfl) rfl #[.int .i64 a0_1] rfl zjnmae ?_; (with_reducible refine (impl_isData.calls a0_1 false _ A4.out).mono ?_); rintro e w' ⟨rfl, ⟨nd, rfl⟩⟩; refine ⟨_, rfl, ?_⟩))
   go_ret
   exact ⟨by first | rfl | (simp [errW_none, errW_some] <;> rfl) | (simp [*, errW_none, errW_some] <;> rfl), by repeat (first | (with_reducible first | exact HB.out | apply below_alloc | apply pw_below_drewN | apply below_drew1 | refine below_set ?_ GE101.out) | exact HB.out)⟩
 ·
  rw [if_neg c3] at H
  have c3b0 : (t102 == 0) = false := beq_eq_false_iff_ne.mpr c3
  have c3b1 : (t102 != 0) = true := bne_iff_ne.mpr c3
  obtain rfl := Option.some.inj H
  go_enter Tryd.func37, Tryd.ntmps37
  go_wp2_with (first | ((with_reducible refine gate_dst (N := 1) rfl ?_); refine box_event ?hg (N := 1) ?hd (cs := #[.string a0_0, .int .i64 a0_1, .int .i64 a0_2, .int .i64 a0_3, .int .i64 a0_4]) (t := 44) ?hr ?_; (case hd => rfl); (case hg => rfl); (case hr => exact zhlgcp); intro gb101 hg w32 hbox hb; have n0_ := aa (below_step zjjbob hb); have n1_ := aa (hbox); have n2_ := aa ((zkpfjp : w.heap.size ≤ gb101)); have n3_ := aa ((zkpfjp : w.heap.size ≤ gb101)); clear HB; have HB := n0_; have BK101 := n1_; have GW101 := n2_; have GE101 := n3_; clear n0_ n1_ n2_ n3_; clear hb hbox hg; have hcz33_0 : w32.cell? ⟨gb101, 0, none⟩ = some (.string a0_0) := (blk_cell BK101.out 0).trans rfl; have hcz33_1 : w32.cell? ⟨gb101, 1, none⟩ = some (.int .i64 a0_1) := (blk_cell BK101.out 1).trans rfl; have hcz33_2 : w32.cell? ⟨gb101, 2, none⟩ = some (.int .i64 a0_2) := (blk_cell BK101.out 2).trans rfl; have hcz33_3 : w32.cell? ⟨gb101, 3, none⟩ = some (.int .i64 a0_3) := (blk_cell BK101.out 3).trans rfl; have hcz33_4 : w32.cell? ⟨gb101, 4, none⟩ = some (.int .i64 a0_4) := (blk_cell BK101.out 4).trans rfl; have hfz33_0 := blk_frozen BK101.out 0; have hfz33_1 := blk_frozen BK101.out 1; have hfz33_2 := blk_frozen BK101.out 2; have hfz33_3 := blk_frozen BK101.out 3; have hfz33_4 := blk_frozen BK101.out 4) | ((with_reducible refine gate_callee (f := 52) rfl ?_); refine goesL_ (some 6) rfl rfl Tryd.func52 (by kernel_rfl) rfl #[.string a0_0] rfl zjnmae ?_; (with_reducible refine (impl_PathFault.calls k a0_0 t102 _ A2.out).mono ?_); rintro e w34 ⟨rfl, hb⟩; refine ⟨_, rfl, ?_⟩; have n0_ := aa (blk_below (g := gb101) (o := .cells #[.string a0_0, .int .i64 a0_1, .int .i64 a0_2, .int .i64 a0_3, .int .i64 a0_4] 44 (0, 0)) (zkjhpm BK101.out) hb); have n1_ := aa (below_step zkmbdh hb); clear BK101; clear HB; have BK101 := n0_; have HB := n1_; clear n0_ n1_; (try clear hb); (try clear hb2); (try clear hk); (try clear hi)))
  go_ret
  exact ⟨by first | rfl | (simp [errW_none, errW_some] <;> rfl) | (simp [*, errW_none, errW_some] <;> rfl), by repeat (first | (with_reducible first | exact HB.out | apply below_alloc | apply pw_below_drewN | apply below_drew1 | refine below_set ?_ GE101.out) | exact HB.out)⟩

end Go.Proofs.YtajlnffefoeppaaDoor.Qa

-- By gp.py (wip/gen of the work's repo), a program of this workplace over the kit's print: Lean checks it.
namespace Go.Proofs.YtajlnffefoeppaaDoor.Qa
open Go.RowKit Go.Proofs.YtajlnffefoeppaaDoorW.PrintWords Go.Proofs.YtajlnffefoeppaaDoorW.PrintLast Go.Proofs.YtajlnffefoeppaaDoorW.PrintMore
attribute [local go_sem] max2_int min2_int max_two min_two max_three min_three max_four min_four   -- for this text's walks alone
set_option linter.unusedVariables false
set_option linter.unusedSimpArgs false
set_option maxHeartbeats 8000000
set_option maxRecDepth 100000

/-! ### bytealg_LastIndexByteString: function 73 -/
def bytealg_LastIndexByteString.l0 : Nat → ByteArray → Int → Int → Option (Int)
 | 0, _, _, _ => none
 | k + 1, x0, x1, x5 => if x5 ≥ 0 then (if 0 ≤ x5 then (if x5 < (x0.size : Int) then (if (bt x0 x5) = x1 then (some x5) else (bytealg_LastIndexByteString.l0 k x0 x1 (wrap64 (x5 - 1)))) else (none)) else (none)) else (some (-1))
def bytealg_LastIndexByteString.f (k : Nat) (a0 : ByteArray) (a1 : Int) : Option (Int) := bytealg_LastIndexByteString.l0 k a0 a1 (wrap64 ((a0.size : Int) - 1))
theorem bytealg_LastIndexByteString.mono_l : ∀ k, (∀ y0 y1 y2, LeO (bytealg_LastIndexByteString.l0 k y0 y1 y2) (bytealg_LastIndexByteString.l0 (k + 1) y0 y1 y2))
 | 0 => fun _ _ _ r h => by simp [bytealg_LastIndexByteString.l0] at h
 | k + 1 => by
  have ih0 := bytealg_LastIndexByteString.mono_l k
  ·
   intro y0 y1 y2
   unfold bytealg_LastIndexByteString.l0
   repeat' first
   | (with_reducible exact ih0 _ _ _)
   | (with_reducible exact LeO.refl _)
   | (with_reducible exact LeO.none _)
   | (with_reducible refine LeO.ite ?_ ?_)
   | (with_reducible refine LeO.bind ?_ (fun _ => ?_))
   | exact ih0 _ _ _
   | exact LeO.none _
   | refine LeO.ite ?_ ?_
   | refine LeO.bind ?_ (fun _ => ?_)
theorem bytealg_LastIndexByteString.mono : ∀ a0 a1 k, LeO (bytealg_LastIndexByteString.f k a0 a1) (bytealg_LastIndexByteString.f (k + 1) a0 a1) := by
 intro a0 a1 k
 have ih0 := bytealg_LastIndexByteString.mono_l k
 unfold bytealg_LastIndexByteString.f
 repeat' first
   | (with_reducible exact ih0 _ _ _)
   | (with_reducible exact LeO.refl _)
   | (with_reducible exact LeO.none _)
   | (with_reducible refine LeO.ite ?_ ?_)
   | (with_reducible refine LeO.bind ?_ (fun _ => ?_))
   | exact ih0 _ _ _
   | exact LeO.none _
   | refine LeO.ite ?_ ?_
   | refine LeO.bind ?_ (fun _ => ?_)
theorem bytealg_LastIndexByteString.calls (k : Nat) (a0 : ByteArray) (a1 : Int) (r : Int) (w : World) (h : bytealg_LastIndexByteString.f k a0 a1 = some r) :
  Calls Tryd.prog 73 #[.string a0, .int .u8 a1] w fun e w' => e = .returned (.int .i64 r) ∧ Drawn0 w w' := by
 have H : (bytealg_LastIndexByteString.l0 k a0 a1 (wrap64 ((a0.size : Int) - 1))) = some r := h
 clear h
 have H' := aa H
 clear H
 go_enter Tryd.func73, Tryd.ntmps73
 go_wp2
 go_loopg [5] k (fun kq v5 w' => ∃ (x5_1 : Int), v5 = .int .i64 x5_1 ∧ Aside0 (bytealg_LastIndexByteString.l0 kq a0 a1 x5_1 = some r) ∧ Aside0 (kq ≤ k) ∧ Drawn0 w w')
 case atStart => exact ⟨(wrap64 ((a0.size : Int) - 1)), zagbkp, H', ⟨Nat.le_refl _⟩, by repeat (first | exact Drawn0.refl _ | apply Drawn0.step)⟩
 case round =>
  clear H'
  try clear p2
  obtain ⟨x5_1, rfl, HA, HK1, ⟨m1, rfl⟩⟩ := hrel
  cases gk with
  | zero => exact absurd HA.out (by simp [bytealg_LastIndexByteString.l0])
  | succ k1 =>
   have H := HA.out
   clear HA
   simp only [bytealg_LastIndexByteString.l0] at H
   by_cases c3 : x5_1 ≥ 0
   ·
    rw [if_pos c3] at H
    have c3b0 : decide (0 ≤ x5_1) = true := decide_eq_true c3
    clear c3
    by_cases c4 : 0 ≤ x5_1
    ·
     rw [if_pos c4] at H
     have c4b0 : decide (0 ≤ x5_1) = true := decide_eq_true c4
     clear c4
     by_cases c5 : x5_1 < (a0.size : Int)
     ·
      rw [if_pos c5] at H
      have c5b0 : decide (x5_1 < (a0.size : Int)) = true := decide_eq_true c5
      clear c5
      by_cases c7 : (bt a0 x5_1) = a1
      ·
       rw [if_pos c7] at H
       have c7b0 : ((bt a0 x5_1) == a1) = true := beq_iff_eq.mpr c7
       have c7b1 : ((bt a0 x5_1) != a1) = false := bne_eq_false_iff_eq.mpr c7
       clear c7
       obtain rfl := Option.some.inj H
       have p6 : 0 ≤ (x5_1 : Int) := of_decide_eq_true zgglam
       have q6 : x5_1 < (a0.size : Int) := of_decide_eq_true zgglam
       have hx6 := bt_at a0 x5_1
       replace p6 := eq_true p6
       replace q6 := eq_true q6
       go_wp2
       go_ret
       exact ⟨by first | rfl | (simp; done) | (simp [*]; done), by repeat (first | exact Drawn0.refl _ | apply Drawn0.step)⟩
      ·
       rw [if_neg c7] at H
       have c7b0 : ((bt a0 x5_1) == a1) = false := beq_eq_false_iff_ne.mpr c7
       have c7b1 : ((bt a0 x5_1) != a1) = true := bne_iff_ne.mpr c7
       have H' := aa H
       clear H
       have p6 : 0 ≤ (x5_1 : Int) := of_decide_eq_true zgglam
       have q6 : x5_1 < (a0.size : Int) := of_decide_eq_true zgglam
       have hx6 := bt_at a0 x5_1
       replace p6 := eq_true p6
       replace q6 := eq_true q6
       go_wp2
       go_roundg k1
       case measure => have := HK1.out; omega
       case rel => exact ⟨(wrap64 (x5_1 - 1)), zagbkp, H', ⟨by have := HK1.out; omega⟩, by repeat (first | exact Drawn0.refl _ | apply Drawn0.step)⟩
     ·
      rw [if_neg c5] at H
      exact absurd H (by simp)
    ·
     rw [if_neg c4] at H
     exact absurd H (by simp)
   ·
    rw [if_neg c3] at H
    have c3b0 : decide (0 ≤ x5_1) = false := decide_eq_false c3
    clear c3
    obtain rfl := Option.some.inj H
    go_wp2
    go_ret
    exact ⟨by first | rfl | (simp; done) | (simp [*]; done), by repeat (first | exact Drawn0.refl _ | apply Drawn0.step)⟩

end Go.Proofs.YtajlnffefoeppaaDoor.Qa

-- By gp.py (wip/gen of the work's repo), a program of this workplace over the kit's print: Lean checks it.
namespace Go.Proofs.YtajlnffefoeppaaDoor.Qa
open Go.RowKit Go.Proofs.YtajlnffefoeppaaDoorW.PrintWords Go.Proofs.YtajlnffefoeppaaDoorW.PrintLast Go.Proofs.YtajlnffefoeppaaDoorW.PrintMore
attribute [local go_sem] max2_int min2_int max_two min_two max_three min_three max_four min_four   -- for this text's walks alone
set_option linter.unusedVariables false
set_option linter.unusedSimpArgs false
set_option maxHeartbeats 8000000
set_option maxRecDepth 100000

/-! ### strings_LastIndex: function 58 -/
def strings_LastIndex.f (k : Nat) (a0 : ByteArray) (a1 : ByteArray) : Option (Int) := if (a1.size : Int) = 0 then (some (a0.size : Int)) else (if (a1.size : Int) = 1 then (if 0 < (a1.size : Int) then ((bytealg_LastIndexByteString.f k a0 (bt a1 0)).bind fun t101 => (some t101)) else (none)) else (if (a1.size : Int) = (a0.size : Int) then (if a1.toList = a0.toList then (some 0) else (some (-1))) else (if (a1.size : Int) > (a0.size : Int) then (some (-1)) else (none))))
theorem strings_LastIndex.mono : ∀ a0 a1 k, LeO (strings_LastIndex.f k a0 a1) (strings_LastIndex.f (k + 1) a0 a1) := by
 intro a0 a1 k
 unfold strings_LastIndex.f
 repeat' first
   | (with_reducible exact bytealg_LastIndexByteString.mono _ _ _)
   | (with_reducible exact LeO.refl _)
   | (with_reducible exact LeO.none _)
   | (with_reducible refine LeO.ite ?_ ?_)
   | (with_reducible refine LeO.bind ?_ (fun _ => ?_))
   | exact bytealg_LastIndexByteString.mono _ _ _
   | exact LeO.none _
   | refine LeO.ite ?_ ?_
   | refine LeO.bind ?_ (fun _ => ?_)
theorem strings_LastIndex.calls (k : Nat) (a0 : ByteArray) (a1 : ByteArray) (r : Int) (w : World) (h : strings_LastIndex.f k a0 a1 = some r) :
  Calls Tryd.prog 58 #[.string a0, .string a1] w fun e w' => e = .returned (.int .i64 r) ∧ Drawn0 w w' := by
 have H : (if (a1.size : Int) = 0 then (some (a0.size : Int)) else (if (a1.size : Int) = 1 then (if 0 < (a1.size : Int) then ((bytealg_LastIndexByteString.f k a0 (bt a1 0)).bind fun t101 => (some t101)) else (none)) else (if (a1.size : Int) = (a0.size : Int) then (if a1.toList = a0.toList then (some 0) else (some (-1))) else (if (a1.size : Int) > (a0.size : Int) then (some (-1)) else (none))))) = some r := h
 clear h
 by_cases c3 : (a1.size : Int) = 0
 ·
  rw [if_pos c3] at H
  have c3b0 : ((a1.size : Int) == 0) = true := beq_iff_eq.mpr c3
  have c3b1 : ((a1.size : Int) != 0) = false := bne_eq_false_iff_eq.mpr c3
  clear c3
  obtain rfl := Option.some.inj H
  go_enter Tryd.func58, Tryd.ntmps58
  go_wp2
  go_ret
  exact ⟨by first | rfl | (simp; done) | (simp [*]; done), by repeat (first | exact Drawn0.refl _ | apply Drawn0.step)⟩
 ·
  rw [if_neg c3] at H
  have c3b0 : ((a1.size : Int) == 0) = false := beq_eq_false_iff_ne.mpr c3
  have c3b1 : ((a1.size : Int) != 0) = true := bne_iff_ne.mpr c3
  by_cases c4 : (a1.size : Int) = 1
  ·
   rw [if_pos c4] at H
   have c4b0 : ((a1.size : Int) == 1) = true := beq_iff_eq.mpr c4
   have c4b1 : ((a1.size : Int) != 1) = false := bne_eq_false_iff_eq.mpr c4
   clear c4
   by_cases c5 : 0 < (a1.size : Int)
   ·
    rw [if_pos c5] at H
    have c5b0 : decide (0 < (a1.size : Int)) = true := decide_eq_true c5
    have c5b1 : decide (0 < a1.size) = true := decide_eq_true (by omega)
    clear c5
    replace H := Option.bind_eq_some_iff.mp H
    obtain ⟨t101, A70, H⟩ := H
    replace H : (some t101) = some r := H
    have A7 := aa A70
    clear A70
    obtain rfl := Option.some.inj H
    have p6 : 0 ≤ (0 : Int) := (by omega)
    have q6 : 0 < a1.size := (by have : (0 : Int) < (a1.size : Int) := of_decide_eq_true zgglam; omega)
    have hx6 : ∀ h : 0 < a1.size, ((a1[0]'h).toNat : Int) = bt a1 0 := bt_at a1 0
    clear p6
    have qi6 : (0 < (a1.size : Int)) = True := eq_true (of_decide_eq_true zgglam)
    replace q6 := eq_true q6
    go_enter Tryd.func58, Tryd.ntmps58
    go_wp2_with (first | ((with_reducible refine gate_callee (f := 73) rfl ?_); refine goesL_ (some 19) rfl rfl Tryd.func73 (by kernel_rfl) rfl #[.string a0, .int .u8 (bt a1 0)] rfl zjnmae ?_; (with_reducible refine (bytealg_LastIndexByteString.calls k a0 (bt a1 0) t101 _ A7.out).mono ?_); rintro e w' ⟨rfl, ⟨nd, rfl⟩⟩; refine ⟨_, rfl, ?_⟩))
    go_ret
    exact ⟨by first | rfl | (simp; done) | (simp [*]; done), by repeat (first | exact Drawn0.refl _ | apply Drawn0.step)⟩
   ·
    rw [if_neg c5] at H
    exact absurd H (by simp)
  ·
   rw [if_neg c4] at H
   have c4b0 : ((a1.size : Int) == 1) = false := beq_eq_false_iff_ne.mpr c4
   have c4b1 : ((a1.size : Int) != 1) = true := bne_iff_ne.mpr c4
   by_cases c8 : (a1.size : Int) = (a0.size : Int)
   ·
    rw [if_pos c8] at H
    have c8b0 : ((a1.size : Int) == (a0.size : Int)) = true := beq_iff_eq.mpr c8
    have c8b1 : ((a1.size : Int) != (a0.size : Int)) = false := bne_eq_false_iff_eq.mpr c8
    have c8b2 : (a1.size == a0.size) = true := by first | simpa using c8 | (simp at c8 ⊢; omega)
    clear c8
    by_cases c9 : a1.toList = a0.toList
    ·
     rw [if_pos c9] at H
     have c9b0 : (a1.toList == a0.toList) = true := beq_iff_eq.mpr c9
     have c9b1 : (a1.toList != a0.toList) = false := bne_eq_false_iff_eq.mpr c9
     clear c9
     obtain rfl := Option.some.inj H
     go_enter Tryd.func58, Tryd.ntmps58
     go_wp2
     go_ret
     exact ⟨by first | rfl | (simp; done) | (simp [*]; done), by repeat (first | exact Drawn0.refl _ | apply Drawn0.step)⟩
    ·
     rw [if_neg c9] at H
     have c9b0 : (a1.toList == a0.toList) = false := beq_eq_false_iff_ne.mpr c9
     have c9b1 : (a1.toList != a0.toList) = true := bne_iff_ne.mpr c9
     obtain rfl := Option.some.inj H
     go_enter Tryd.func58, Tryd.ntmps58
     go_wp2
     go_ret
     exact ⟨by first | rfl | (simp; done) | (simp [*]; done), by repeat (first | exact Drawn0.refl _ | apply Drawn0.step)⟩
   ·
    rw [if_neg c8] at H
    have c8b0 : ((a1.size : Int) == (a0.size : Int)) = false := beq_eq_false_iff_ne.mpr c8
    have c8b1 : ((a1.size : Int) != (a0.size : Int)) = true := bne_iff_ne.mpr c8
    have c8b2 : (a1.size == a0.size) = false := by first | simpa using c8 | (simp at c8 ⊢; omega)
    by_cases c10 : (a1.size : Int) > (a0.size : Int)
    ·
     rw [if_pos c10] at H
     have c10b0 : decide ((a0.size : Int) < (a1.size : Int)) = true := decide_eq_true c10
     have c10b1 : decide (a0.size < a1.size) = true := decide_eq_true (Int.ofNat_lt.mp c10)
     clear c10
     obtain rfl := Option.some.inj H
     go_enter Tryd.func58, Tryd.ntmps58
     go_wp2
     go_ret
     exact ⟨by first | rfl | (simp; done) | (simp [*]; done), by repeat (first | exact Drawn0.refl _ | apply Drawn0.step)⟩
    ·
     rw [if_neg c10] at H
     exact absurd H (by simp)

end Go.Proofs.YtajlnffefoeppaaDoor.Qa

-- By gp.py (wip/gen of the work's repo), a program of this workplace over the kit's print: Lean checks it.
namespace Go.Proofs.YtajlnffefoeppaaDoor.Qa
open Go.RowKit Go.Proofs.YtajlnffefoeppaaDoorW.PrintWords Go.Proofs.YtajlnffefoeppaaDoorW.PrintLast Go.Proofs.YtajlnffefoeppaaDoorW.PrintMore
attribute [local go_sem] max2_int min2_int max_two min_two max_three min_three max_four min_four   -- for this text's walks alone
set_option linter.unusedVariables false
set_option linter.unusedSimpArgs false
set_option maxHeartbeats 8000000
set_option maxRecDepth 100000

/-! ### impl_parted: function 38 -/
def impl_parted.f (k : Nat) (a0 : ByteArray) : Option (ByteArray × ByteArray) := (strings_LastIndex.f k a0 (⟨#[47]⟩ : ByteArray)).bind fun t101 => (if 0 ≤ (mx t101 1) then (if (mx t101 1) ≤ (a0.size : Int) then (if 0 ≤ (wrap64 (t101 + 1)) then (if (wrap64 (t101 + 1)) ≤ (a0.size : Int) then (some (a0.extract 0 ((mx t101 1) : Int).toNat, a0.extract ((wrap64 (t101 + 1)) : Int).toNat a0.size)) else (none)) else (none)) else (none)) else (none))
theorem impl_parted.mono : ∀ a0 k, LeO (impl_parted.f k a0) (impl_parted.f (k + 1) a0) := by
 intro a0 k
 unfold impl_parted.f
 repeat' first
   | (with_reducible exact strings_LastIndex.mono _ _ _)
   | (with_reducible exact LeO.refl _)
   | (with_reducible exact LeO.none _)
   | (with_reducible refine LeO.ite ?_ ?_)
   | (with_reducible refine LeO.bind ?_ (fun _ => ?_))
   | exact strings_LastIndex.mono _ _ _
   | exact LeO.none _
   | refine LeO.ite ?_ ?_
   | refine LeO.bind ?_ (fun _ => ?_)
theorem impl_parted.calls (k : Nat) (a0 : ByteArray) (r1 : ByteArray) (r2 : ByteArray) (w : World) (h : impl_parted.f k a0 = some (r1, r2)) :
  Calls Tryd.prog 38 #[.string a0] w fun e w' => e = .returned (.tuple #[.string r1, .string r2]) ∧ Below w.heap.size w w' := by
 have HB := aa (Below.refl w.heap.size w)
 have H : ((strings_LastIndex.f k a0 (⟨#[47]⟩ : ByteArray)).bind fun t101 => (if 0 ≤ (mx t101 1) then (if (mx t101 1) ≤ (a0.size : Int) then (if 0 ≤ (wrap64 (t101 + 1)) then (if (wrap64 (t101 + 1)) ≤ (a0.size : Int) then (some (a0.extract 0 ((mx t101 1) : Int).toNat, a0.extract ((wrap64 (t101 + 1)) : Int).toNat a0.size)) else (none)) else (none)) else (none)) else (none))) = some (r1, r2) := h
 clear h
 replace H := Option.bind_eq_some_iff.mp H
 obtain ⟨t101, A20, H⟩ := H
 replace H : (if 0 ≤ (mx t101 1) then (if (mx t101 1) ≤ (a0.size : Int) then (if 0 ≤ (wrap64 (t101 + 1)) then (if (wrap64 (t101 + 1)) ≤ (a0.size : Int) then (some (a0.extract 0 ((mx t101 1) : Int).toNat, a0.extract ((wrap64 (t101 + 1)) : Int).toNat a0.size)) else (none)) else (none)) else (none)) else (none)) = some (r1, r2) := H
 have A2 := aa A20
 clear A20
 obtain ⟨ji3, hji3⟩ : ∃ j_ : Int, (mx t101 1) = j_ := ⟨_, rfl⟩
 replace H : (if 0 ≤ (ji3) then (if (ji3) ≤ (a0.size : Int) then (if 0 ≤ (wrap64 (t101 + 1)) then (if (wrap64 (t101 + 1)) ≤ (a0.size : Int) then (some (a0.extract 0 ((ji3) : Int).toNat, a0.extract ((wrap64 (t101 + 1)) : Int).toNat a0.size)) else (none)) else (none)) else (none)) else (none)) = some (r1, r2) := by first | (rw [hji3] at H; exact H) | (simp only [hji3] at H ⊢; exact H)
 (try rw [hji3] at A2)
 (try (have hji3l : 1 ≤ ji3 := by (rw [← hji3]; unfold mx; (repeat' split) <;> omega)))
 (try (have hji3m : 0 ≤ ji3 := by omega))
 have hji3_ : (if t101 < 1 then 1 else t101) = ji3 := hji3
 by_cases c4 : 0 ≤ (ji3)
 ·
  rw [if_pos c4] at H
  have c4b0 := eq_true c4
  have c4b1 : decide (0 ≤ (ji3)) = true := decide_eq_true c4
  clear c4
  by_cases c5 : (ji3) ≤ (a0.size : Int)
  ·
   rw [if_pos c5] at H
   have c5b0 := eq_true c5
   have c5b1 : decide ((ji3) ≤ (a0.size : Int)) = true := decide_eq_true c5
   clear c5
   obtain ⟨ji6, hji6⟩ : ∃ j_ : Int, (wrap64 (t101 + 1)) = j_ := ⟨_, rfl⟩
   replace H : (if 0 ≤ (ji6) then (if (ji6) ≤ (a0.size : Int) then (some (a0.extract 0 ((ji3) : Int).toNat, a0.extract ((ji6) : Int).toNat a0.size)) else (none)) else (none)) = some (r1, r2) := by first | (rw [hji6] at H; exact H) | (simp only [hji6] at H ⊢; exact H)
   (try rw [hji6] at A2)
   have hji6w : (IntKind.i64.wrap (t101 + 1)) = ji6 := (i64_w _).trans hji6
   by_cases c7 : 0 ≤ (ji6)
   ·
    rw [if_pos c7] at H
    have c7b0 := eq_true c7
    have c7b1 : decide (0 ≤ (ji6)) = true := decide_eq_true c7
    clear c7
    by_cases c8 : (ji6) ≤ (a0.size : Int)
    ·
     rw [if_pos c8] at H
     have c8b0 := eq_true c8
     have c8b1 : decide ((ji6) ≤ (a0.size : Int)) = true := decide_eq_true c8
     clear c8
     simp only [Option.some.injEq, Prod.mk.injEq] at H
     obtain ⟨rfl, rfl⟩ := H
     go_enter Tryd.func38, Tryd.ntmps38
     go_wp2_with (first | (go_at_call 58; (with_reducible refine (strings_LastIndex.calls k a0 (⟨#[47]⟩ : ByteArray) t101 _ A2.out).mono ?_); rintro e w' ⟨rfl, ⟨nd, rfl⟩⟩; (try exact zecaha)))
     repeat (go_quiet (first | (go_at_call 58; (with_reducible refine (strings_LastIndex.calls k a0 (⟨#[47]⟩ : ByteArray) t101 _ A2.out).mono ?_); rintro e w' ⟨rfl, ⟨nd, rfl⟩⟩; (try exact zecaha))); try go_wp2_with (first | (go_at_call 58; (with_reducible refine (strings_LastIndex.calls k a0 (⟨#[47]⟩ : ByteArray) t101 _ A2.out).mono ?_); rintro e w' ⟨rfl, ⟨nd, rfl⟩⟩; (try exact zecaha))))
     go_ret2
     exact ⟨by first | rfl | (simp [errW_none, errW_some] <;> rfl) | (simp only [← hji3, ← hji6]; first | rfl | (simp [errW_none, errW_some] <;> rfl)) | (simp [*, errW_none, errW_some] <;> rfl), by repeat (first | (with_reducible first | exact HB.out | apply below_alloc | apply pw_below_drewN | apply below_drew1) | exact HB.out)⟩
    ·
     rw [if_neg c8] at H
     exact absurd H (by simp)
   ·
    rw [if_neg c7] at H
    exact absurd H (by simp)
  ·
   rw [if_neg c5] at H
   exact absurd H (by simp)
 ·
  rw [if_neg c4] at H
  exact absurd H (by simp)

end Go.Proofs.YtajlnffefoeppaaDoor.Qa

-- By gp.py (wip/gen of the work's repo), a program of this workplace over the kit's print: Lean checks it.
namespace Go.Proofs.YtajlnffefoeppaaDoor.Qa
open Go.RowKit Go.Proofs.YtajlnffefoeppaaDoorW.PrintWords Go.Proofs.YtajlnffefoeppaaDoorW.PrintLast Go.Proofs.YtajlnffefoeppaaDoorW.PrintMore
attribute [local go_sem] max2_int min2_int max_two min_two max_three min_three max_four min_four   -- for this text's walks alone
set_option linter.unusedVariables false
set_option linter.unusedSimpArgs false
set_option maxHeartbeats 8000000
set_option maxRecDepth 100000

/-! ### impl_TreeFault: function 21 -/
mutual
def impl_TreeFault.l0 : Nat → List (S44) → List (S44) → Int → Int → Option (Int)
 | 0, _, _, _, _ => none
 | k + 1, x0, x18, x19, x20 => if x20 < x19 then (if 0 ≤ x20 then (if x20 < (x18.length : Int) then ((impl_nodeFault.f k ((rd_T44 x18 x20).f0) ((rd_T44 x18 x20).f1) ((rd_T44 x18 x20).f2) ((rd_T44 x18 x20).f3) ((rd_T44 x18 x20).f4)).bind fun t103 => (if t103 = 0 then (if x20 > 0 then (if 0 ≤ (wrap64 (x20 - 1)) then (if (wrap64 (x20 - 1)) < (x0.length : Int) then (if ((Op.bytesLess (((rd_T44 x0 (wrap64 (x20 - 1))).f0).toList) (((rd_T44 x18 x20).f0).toList)) = true) then (impl_TreeFault.l0 k x0 x18 x19 (wrap64 (x20 + 1))) else (some 1)) else (none)) else (none)) else (impl_TreeFault.l0 k x0 x18 x19 (wrap64 (x20 + 1)))) else (some t103))) else (none)) else (none)) else ((impl_find.f k x0 (⟨#[47]⟩ : ByteArray)).bind fun bt105 => (if bt105.2 = true then (if 0 < (x0.length : Int) then (if 1 ≤ (x0.length : Int) then ((some (x0.drop 1 : List (S44))).bind fun y108 => (impl_TreeFault.l1 k x0 (((rd_T44 x0 0).f3) != 0) y108 (y108.length : Int) 0)) else (none)) else (none)) else (some 4)))
def impl_TreeFault.l1 : Nat → List (S44) → Bool → List (S44) → Int → Int → Option (Int)
 | 0, _, _, _, _, _ => none
 | k + 1, x0, x8, x57, x58, x59 => if x59 < x58 then (if 0 ≤ x59 then (if x59 < (x57.length : Int) then ((impl_parted.f k ((rd_T44 x57 x59).f0)).bind fun bt114 => ((impl_find.f k x0 bt114.1).bind fun bt116 => (if bt116.2 = true then (if x8 = true then (impl_TreeFault.l1 k x0 true x57 x58 (wrap64 (x59 + 1))) else (if 0 ≤ bt116.1 then (if bt116.1 < (x0.length : Int) then (impl_TreeFault.l1 k x0 (((rd_T44 x0 bt116.1).f3) != 0) x57 x58 (wrap64 (x59 + 1))) else (none)) else (none))) else (some 4)))) else (none)) else (none)) else (if x8 = true then (some 1) else (some 0))
end
def impl_TreeFault.f (k : Nat) (l0 : List (S44)) : Option (Int) := if (l0.length : Int) > 20 then (some 2) else (impl_TreeFault.l0 k l0 l0 (l0.length : Int) 0)
theorem impl_TreeFault.mono_l : ∀ k, (∀ y0 y1 y2 y3, LeO (impl_TreeFault.l0 k y0 y1 y2 y3) (impl_TreeFault.l0 (k + 1) y0 y1 y2 y3)) ∧ (∀ y0 y1 y2 y3 y4, LeO (impl_TreeFault.l1 k y0 y1 y2 y3 y4) (impl_TreeFault.l1 (k + 1) y0 y1 y2 y3 y4))
 | 0 => ⟨fun _ _ _ _ r h => by simp [impl_TreeFault.l0] at h, fun _ _ _ _ _ r h => by simp [impl_TreeFault.l1] at h⟩
 | k + 1 => by
  obtain ⟨ih0, ih1⟩ := impl_TreeFault.mono_l k
  refine ⟨?_, ?_⟩
  ·
   intro y0 y1 y2 y3
   unfold impl_TreeFault.l0
   repeat' first
   | (with_reducible exact ih0 _ _ _ _)
   | (with_reducible exact ih1 _ _ _ _ _)
   | (with_reducible exact impl_find.mono _ _ _)
   | (with_reducible exact impl_nodeFault.mono _ _ _ _ _ _)
   | (with_reducible exact impl_parted.mono _ _)
   | (with_reducible exact LeO.refl _)
   | (with_reducible exact LeO.none _)
   | (with_reducible refine LeO.ite ?_ ?_)
   | (with_reducible refine LeO.bind ?_ (fun _ => ?_))
   | exact ih0 _ _ _ _
   | exact ih1 _ _ _ _ _
   | exact impl_find.mono _ _ _
   | exact impl_nodeFault.mono _ _ _ _ _ _
   | exact impl_parted.mono _ _
   | exact LeO.none _
   | refine LeO.ite ?_ ?_
   | refine LeO.bind ?_ (fun _ => ?_)
  ·
   intro y0 y1 y2 y3 y4
   unfold impl_TreeFault.l1
   repeat' first
   | (with_reducible exact ih0 _ _ _ _)
   | (with_reducible exact ih1 _ _ _ _ _)
   | (with_reducible exact impl_find.mono _ _ _)
   | (with_reducible exact impl_nodeFault.mono _ _ _ _ _ _)
   | (with_reducible exact impl_parted.mono _ _)
   | (with_reducible exact LeO.refl _)
   | (with_reducible exact LeO.none _)
   | (with_reducible refine LeO.ite ?_ ?_)
   | (with_reducible refine LeO.bind ?_ (fun _ => ?_))
   | exact ih0 _ _ _ _
   | exact ih1 _ _ _ _ _
   | exact impl_find.mono _ _ _
   | exact impl_nodeFault.mono _ _ _ _ _ _
   | exact impl_parted.mono _ _
   | exact LeO.none _
   | refine LeO.ite ?_ ?_
   | refine LeO.bind ?_ (fun _ => ?_)
theorem impl_TreeFault.mono : ∀ a0 k, LeO (impl_TreeFault.f k a0) (impl_TreeFault.f (k + 1) a0) := by
 intro a0 k
 obtain ⟨ih0, ih1⟩ := impl_TreeFault.mono_l k
 unfold impl_TreeFault.f
 repeat' first
   | (with_reducible exact ih0 _ _ _ _)
   | (with_reducible exact ih1 _ _ _ _ _)
   | (with_reducible exact impl_find.mono _ _ _)
   | (with_reducible exact impl_nodeFault.mono _ _ _ _ _ _)
   | (with_reducible exact impl_parted.mono _ _)
   | (with_reducible exact LeO.refl _)
   | (with_reducible exact LeO.none _)
   | (with_reducible refine LeO.ite ?_ ?_)
   | (with_reducible refine LeO.bind ?_ (fun _ => ?_))
   | exact ih0 _ _ _ _
   | exact ih1 _ _ _ _ _
   | exact impl_find.mono _ _ _
   | exact impl_nodeFault.mono _ _ _ _ _ _
   | exact impl_parted.mono _ _
   | exact LeO.none _
   | refine LeO.ite ?_ ?_
   | refine LeO.bind ?_ (fun _ => ?_)
theorem impl_TreeFault.calls (k : Nat) (A0 : Option Addr) (c0 : Nat) (l0 : List (S44)) (r : Int) (w : World) (hr0 : Kd.C k44 w A0 l0.length l0) (hc0 : l0.length ≤ c0) (h : impl_TreeFault.f k l0 = some r) :
  Calls Tryd.prog 21 #[.slice A0 l0.length c0] w fun e w' => e = .returned (.int .i64 r) ∧ Below w.heap.size w w' := by
 have hu44 := Tryd.underlying44
 have HR0 := aa hr0
 have HC0 := aa hc0
 clear hr0 hc0
 have HB := aa (Below.refl w.heap.size w)
 have H : (if (l0.length : Int) > 20 then (some 2) else (impl_TreeFault.l0 k l0 l0 (l0.length : Int) 0)) = some r := h
 clear h
 by_cases c2 : (l0.length : Int) > 20
 ·
  rw [if_pos c2] at H
  have c2b0 : decide (20 < (l0.length : Int)) = true := decide_eq_true c2
  have c2b1 : decide (20 < l0.length) = true := decide_eq_true (by omega)
  clear c2
  obtain rfl := Option.some.inj H
  go_enter Tryd.func21, Tryd.ntmps21
  go_wp2
  repeat (go_quiet (fail); try go_wp2)
  go_ret
  exact ⟨by first | rfl | (simp [errW_none, errW_some] <;> rfl) | (simp [*, errW_none, errW_some] <;> rfl), by repeat (first | (with_reducible first | exact HB.out | apply below_alloc | apply pw_below_drewN | apply below_drew1) | exact HB.out)⟩
 ·
  rw [if_neg c2] at H
  have c2b0 : decide (20 < (l0.length : Int)) = false := decide_eq_false c2
  have c2b1 : decide (20 < l0.length) = false := decide_eq_false (by omega)
  clear c2
  have H' := aa H
  clear H
  go_enter Tryd.func21, Tryd.ntmps21
  go_wp2
  repeat (go_quiet (fail); try go_wp2)
  go_loopg [20] k (fun kq v20 w' => ∃ (x20_1 : Int), v20 = .int .i64 x20_1 ∧ Aside0 (impl_TreeFault.l0 kq l0 l0 (l0.length : Int) x20_1 = some r) ∧ Aside0 (kq ≤ k) ∧ Aside0 (Below w.heap.size w w'))
  case atStart => exact ⟨(0), zagbkp, H', ⟨Nat.le_refl _⟩, ⟨by repeat (first | (with_reducible first | exact HB.out | apply below_alloc | apply pw_below_drewN | apply below_drew1) | exact HB.out)⟩⟩
  case round =>
   clear H'
   try clear c2
   try clear c2b0
   try clear c2b1
   try clear p2
   obtain ⟨x20_1, rfl, HA, HK1, HB⟩ := hrel
   cases gk with
   | zero => exact absurd HA.out (by simp [impl_TreeFault.l0])
   | succ k1 =>
    have H := HA.out
    clear HA
    simp only [impl_TreeFault.l0] at H
    by_cases c3 : x20_1 < (l0.length : Int)
    ·
     rw [if_pos c3] at H
     have c3b0 : decide (x20_1 < (l0.length : Int)) = true := decide_eq_true c3
     clear c3
     by_cases c4 : 0 ≤ x20_1
     ·
      rw [if_pos c4] at H
      have c4b0 : decide (0 ≤ x20_1) = true := decide_eq_true c4
      clear c4
      by_cases c5 : x20_1 < (l0.length : Int)
      ·
       rw [if_pos c5] at H
       have c5b0 : decide (x20_1 < (l0.length : Int)) = true := decide_eq_true c5
       clear c5
       replace H := Option.bind_eq_some_iff.mp H
       obtain ⟨t103, A60, H⟩ := H
       replace H : (if t103 = 0 then (if x20_1 > 0 then (if 0 ≤ (wrap64 (x20_1 - 1)) then (if (wrap64 (x20_1 - 1)) < (l0.length : Int) then (if ((Op.bytesLess (((rd_T44 l0 (wrap64 (x20_1 - 1))).f0).toList) (((rd_T44 l0 x20_1).f0).toList)) = true) then (impl_TreeFault.l0 k1 l0 l0 (l0.length : Int) (wrap64 (x20_1 + 1))) else (some 1)) else (none)) else (none)) else (impl_TreeFault.l0 k1 l0 l0 (l0.length : Int) (wrap64 (x20_1 + 1)))) else (some t103)) = some r := H
       have A6 := aa A60
       clear A60
       by_cases c7 : t103 = 0
       ·
        rw [if_pos c7] at H
        have c7b0 : (t103 == 0) = true := beq_iff_eq.mpr c7
        have c7b1 : (t103 != 0) = false := bne_eq_false_iff_eq.mpr c7
        clear c7
        by_cases c8 : x20_1 > 0
        ·
         rw [if_pos c8] at H
         have c8b0 : decide (0 < x20_1) = true := decide_eq_true c8
         clear c8
         obtain ⟨ji9, hji9⟩ : ∃ j_ : Int, (wrap64 (x20_1 - 1)) = j_ := ⟨_, rfl⟩
         replace H : (if 0 ≤ (ji9) then (if (ji9) < (l0.length : Int) then (if ((Op.bytesLess (((rd_T44 l0 (ji9)).f0).toList) (((rd_T44 l0 x20_1).f0).toList)) = true) then (impl_TreeFault.l0 k1 l0 l0 (l0.length : Int) (wrap64 (x20_1 + 1))) else (some 1)) else (none)) else (none)) = some r := by first | (rw [hji9] at H; exact H) | (simp only [hji9] at H ⊢; exact H)
         (try rw [hji9] at A6)
         have hji9w : (IntKind.i64.wrap (x20_1 - 1)) = ji9 := (i64_w _).trans hji9
         by_cases c10 : 0 ≤ (ji9)
         ·
          rw [if_pos c10] at H
          have c10b0 : decide (0 ≤ (ji9)) = true := decide_eq_true c10
          clear c10
          by_cases c11 : (ji9) < (l0.length : Int)
          ·
           rw [if_pos c11] at H
           have c11b0 : decide ((ji9) < (l0.length : Int)) = true := decide_eq_true c11
           clear c11
           by_cases c12 : ((Op.bytesLess (((rd_T44 l0 (ji9)).f0).toList) (((rd_T44 l0 x20_1).f0).toList)) = true)
           ·
            rw [if_pos c12] at H
            have c12b0 : (Op.bytesLess (((rd_T44 l0 (ji9)).f0).toList) (((rd_T44 l0 x20_1).f0).toList)) = true := c12
            have c12le_ : ∀ W_ : World, (binOp .leq 9 (.string ((rd_T44 l0 x20_1).f0)) (.string ((rd_T44 l0 (ji9)).f0))).run Tryd.prog W_ = Result.ok (.bool false) W_ := fun W_ => leq_false c12b0 W_
            clear c12
            have H' := aa H
            clear H
            have p101 : 0 ≤ (x20_1 : Int) := of_decide_eq_true zgglam
            have q101 : x20_1 < (l0.length : Int) := of_decide_eq_true zgglam
            obtain ⟨ad101, e101, hx101_0, hx101_1, hx101_2, hx101_3, hx101_4⟩ := at_T44 HR0.out x20_1 p101 q101
            cases e101
            replace hx101_0 := pb HB.out hx101_0
            replace hx101_1 := pb HB.out hx101_1
            replace hx101_2 := pb HB.out hx101_2
            replace hx101_3 := pb HB.out hx101_3
            replace hx101_4 := pb HB.out hx101_4
            replace p101 := eq_true p101
            replace q101 := eq_true q101
            go_wp2_with (first | ((with_reducible refine gate_dst (N := 4) rfl ?_); refine box_event ?hg (N := 4) ?hd (cs := #[.string (⟨#[]⟩ : ByteArray), .int .i64 0, .int .i64 0, .int .i64 0, .int .i64 0]) (t := 44) ?hr ?_; (case hd => rfl); (case hg => rfl); (case hr => exact zhlgcp); intro gb102 hg w13 hbox hb; have n0_ := aa (below_step zjjbob hb); have n1_ := aa (hbox); have n2_ := aa ((zkpfjp : w.heap.size ≤ gb102)); have n3_ := aa ((zkpfjp : w.heap.size ≤ gb102)); clear HB; have HB := n0_; have BK102 := n1_; have GW102 := n2_; have GE102 := n3_; clear n0_ n1_ n2_ n3_; clear hb hbox hg; have hcz14_0 : w13.cell? ⟨gb102, 0, none⟩ = some (.string (⟨#[]⟩ : ByteArray)) := (blk_cell BK102.out 0).trans rfl; have hcz14_1 : w13.cell? ⟨gb102, 1, none⟩ = some (.int .i64 0) := (blk_cell BK102.out 1).trans rfl; have hcz14_2 : w13.cell? ⟨gb102, 2, none⟩ = some (.int .i64 0) := (blk_cell BK102.out 2).trans rfl; have hcz14_3 : w13.cell? ⟨gb102, 3, none⟩ = some (.int .i64 0) := (blk_cell BK102.out 3).trans rfl; have hcz14_4 : w13.cell? ⟨gb102, 4, none⟩ = some (.int .i64 0) := (blk_cell BK102.out 4).trans rfl; have hfz14_0 := blk_frozen BK102.out 0; have hfz14_1 := blk_frozen BK102.out 1; have hfz14_2 := blk_frozen BK102.out 2; have hfz14_3 := blk_frozen BK102.out 3; have hfz14_4 := blk_frozen BK102.out 4) | (go_at_call 37; (with_reducible refine (impl_nodeFault.calls k1 ((rd_T44 l0 x20_1).f0) ((rd_T44 l0 x20_1).f1) ((rd_T44 l0 x20_1).f2) ((rd_T44 l0 x20_1).f3) ((rd_T44 l0 x20_1).f4) t103 _ A6.out).mono ?_); rintro e w15 ⟨rfl, hb⟩; have n0_ := aa (blk_below (g := gb102) (o := .cells #[.string ((rd_T44 l0 x20_1).f0), .int .i64 ((rd_T44 l0 x20_1).f1), .int .i64 ((rd_T44 l0 x20_1).f2), .int .i64 ((rd_T44 l0 x20_1).f3), .int .i64 ((rd_T44 l0 x20_1).f4)] 44 (0, 0)) znpgig hb); have n1_ := aa (below_step zndomn hb); clear BK102; clear HB; have BK102 := n0_; have HB := n1_; clear n0_ n1_; (try clear hb); (try clear hb2); (try clear hk); (try clear hi); have hcz16_0 : w15.cell? ⟨gb102, 0, none⟩ = some (.string ((rd_T44 l0 x20_1).f0)) := (blk_cell BK102.out 0).trans rfl; have hcz16_1 : w15.cell? ⟨gb102, 1, none⟩ = some (.int .i64 ((rd_T44 l0 x20_1).f1)) := (blk_cell BK102.out 1).trans rfl; have hcz16_2 : w15.cell? ⟨gb102, 2, none⟩ = some (.int .i64 ((rd_T44 l0 x20_1).f2)) := (blk_cell BK102.out 2).trans rfl; have hcz16_3 : w15.cell? ⟨gb102, 3, none⟩ = some (.int .i64 ((rd_T44 l0 x20_1).f3)) := (blk_cell BK102.out 3).trans rfl; have hcz16_4 : w15.cell? ⟨gb102, 4, none⟩ = some (.int .i64 ((rd_T44 l0 x20_1).f4)) := (blk_cell BK102.out 4).trans rfl; have hfz16_0 := blk_frozen BK102.out 0; have hfz16_1 := blk_frozen BK102.out 1; have hfz16_2 := blk_frozen BK102.out 2; have hfz16_3 := blk_frozen BK102.out 3; have hfz16_4 := blk_frozen BK102.out 4; have p104 : 0 ≤ ((ji9) : Int) := of_decide_eq_true zgglam; have q104 : (ji9) < (l0.length : Int) := of_decide_eq_true zgglam; obtain ⟨ad104, e104, hx104_0, hx104_1, hx104_2, hx104_3, hx104_4⟩ := at_T44 HR0.out (ji9) p104 q104; obtain rfl : ad101 = ad104 := (by injection e104); replace hx104_0 := pb HB.out hx104_0; replace hx104_1 := pb HB.out hx104_1; replace hx104_2 := pb HB.out hx104_2; replace hx104_3 := pb HB.out hx104_3; replace hx104_4 := pb HB.out hx104_4; replace p104 := eq_true p104; replace q104 := eq_true q104))
            repeat (go_quiet (fail); try go_wp2)
            go_roundg k1
            case measure => have := HK1.out; omega
            case rel => exact ⟨(wrap64 (x20_1 + 1)), zagbkp, H', ⟨by have := HK1.out; omega⟩, ⟨by repeat (first | (with_reducible first | exact HB.out | apply below_alloc | apply pw_below_drewN | apply below_drew1 | refine below_set ?_ GE102.out) | exact HB.out)⟩⟩
           ·
            rw [if_neg c12] at H
            have c12b0 : (Op.bytesLess (((rd_T44 l0 (ji9)).f0).toList) (((rd_T44 l0 x20_1).f0).toList)) = false := by simpa using c12
            have c12le_ : ∀ W_ : World, (binOp .leq 9 (.string ((rd_T44 l0 x20_1).f0)) (.string ((rd_T44 l0 (ji9)).f0))).run Tryd.prog W_ = Result.ok (.bool true) W_ := fun W_ => leq_true c12b0 W_
            clear c12
            obtain rfl := Option.some.inj H
            have p101 : 0 ≤ (x20_1 : Int) := of_decide_eq_true zgglam
            have q101 : x20_1 < (l0.length : Int) := of_decide_eq_true zgglam
            obtain ⟨ad101, e101, hx101_0, hx101_1, hx101_2, hx101_3, hx101_4⟩ := at_T44 HR0.out x20_1 p101 q101
            cases e101
            replace hx101_0 := pb HB.out hx101_0
            replace hx101_1 := pb HB.out hx101_1
            replace hx101_2 := pb HB.out hx101_2
            replace hx101_3 := pb HB.out hx101_3
            replace hx101_4 := pb HB.out hx101_4
            replace p101 := eq_true p101
            replace q101 := eq_true q101
            go_wp2_with (first | ((with_reducible refine gate_dst (N := 4) rfl ?_); refine box_event ?hg (N := 4) ?hd (cs := #[.string (⟨#[]⟩ : ByteArray), .int .i64 0, .int .i64 0, .int .i64 0, .int .i64 0]) (t := 44) ?hr ?_; (case hd => rfl); (case hg => rfl); (case hr => exact zhlgcp); intro gb102 hg w17 hbox hb; have n0_ := aa (below_step zjjbob hb); have n1_ := aa (hbox); have n2_ := aa ((zkpfjp : w.heap.size ≤ gb102)); have n3_ := aa ((zkpfjp : w.heap.size ≤ gb102)); clear HB; have HB := n0_; have BK102 := n1_; have GW102 := n2_; have GE102 := n3_; clear n0_ n1_ n2_ n3_; clear hb hbox hg; have hcz18_0 : w17.cell? ⟨gb102, 0, none⟩ = some (.string (⟨#[]⟩ : ByteArray)) := (blk_cell BK102.out 0).trans rfl; have hcz18_1 : w17.cell? ⟨gb102, 1, none⟩ = some (.int .i64 0) := (blk_cell BK102.out 1).trans rfl; have hcz18_2 : w17.cell? ⟨gb102, 2, none⟩ = some (.int .i64 0) := (blk_cell BK102.out 2).trans rfl; have hcz18_3 : w17.cell? ⟨gb102, 3, none⟩ = some (.int .i64 0) := (blk_cell BK102.out 3).trans rfl; have hcz18_4 : w17.cell? ⟨gb102, 4, none⟩ = some (.int .i64 0) := (blk_cell BK102.out 4).trans rfl; have hfz18_0 := blk_frozen BK102.out 0; have hfz18_1 := blk_frozen BK102.out 1; have hfz18_2 := blk_frozen BK102.out 2; have hfz18_3 := blk_frozen BK102.out 3; have hfz18_4 := blk_frozen BK102.out 4) | (go_at_call 37; (with_reducible refine (impl_nodeFault.calls k1 ((rd_T44 l0 x20_1).f0) ((rd_T44 l0 x20_1).f1) ((rd_T44 l0 x20_1).f2) ((rd_T44 l0 x20_1).f3) ((rd_T44 l0 x20_1).f4) t103 _ A6.out).mono ?_); rintro e w19 ⟨rfl, hb⟩; have n0_ := aa (blk_below (g := gb102) (o := .cells #[.string ((rd_T44 l0 x20_1).f0), .int .i64 ((rd_T44 l0 x20_1).f1), .int .i64 ((rd_T44 l0 x20_1).f2), .int .i64 ((rd_T44 l0 x20_1).f3), .int .i64 ((rd_T44 l0 x20_1).f4)] 44 (0, 0)) znpgig hb); have n1_ := aa (below_step zndomn hb); clear BK102; clear HB; have BK102 := n0_; have HB := n1_; clear n0_ n1_; (try clear hb); (try clear hb2); (try clear hk); (try clear hi); have hcz20_0 : w19.cell? ⟨gb102, 0, none⟩ = some (.string ((rd_T44 l0 x20_1).f0)) := (blk_cell BK102.out 0).trans rfl; have hcz20_1 : w19.cell? ⟨gb102, 1, none⟩ = some (.int .i64 ((rd_T44 l0 x20_1).f1)) := (blk_cell BK102.out 1).trans rfl; have hcz20_2 : w19.cell? ⟨gb102, 2, none⟩ = some (.int .i64 ((rd_T44 l0 x20_1).f2)) := (blk_cell BK102.out 2).trans rfl; have hcz20_3 : w19.cell? ⟨gb102, 3, none⟩ = some (.int .i64 ((rd_T44 l0 x20_1).f3)) := (blk_cell BK102.out 3).trans rfl; have hcz20_4 : w19.cell? ⟨gb102, 4, none⟩ = some (.int .i64 ((rd_T44 l0 x20_1).f4)) := (blk_cell BK102.out 4).trans rfl; have hfz20_0 := blk_frozen BK102.out 0; have hfz20_1 := blk_frozen BK102.out 1; have hfz20_2 := blk_frozen BK102.out 2; have hfz20_3 := blk_frozen BK102.out 3; have hfz20_4 := blk_frozen BK102.out 4; have p104 : 0 ≤ ((ji9) : Int) := of_decide_eq_true zgglam; have q104 : (ji9) < (l0.length : Int) := of_decide_eq_true zgglam; obtain ⟨ad104, e104, hx104_0, hx104_1, hx104_2, hx104_3, hx104_4⟩ := at_T44 HR0.out (ji9) p104 q104; obtain rfl : ad101 = ad104 := (by injection e104); replace hx104_0 := pb HB.out hx104_0; replace hx104_1 := pb HB.out hx104_1; replace hx104_2 := pb HB.out hx104_2; replace hx104_3 := pb HB.out hx104_3; replace hx104_4 := pb HB.out hx104_4; replace p104 := eq_true p104; replace q104 := eq_true q104))
            repeat (go_quiet (fail); try go_wp2)
            go_ret
            exact ⟨by first | rfl | (simp [errW_none, errW_some] <;> rfl) | (simp only [← hji9]; first | rfl | (simp [errW_none, errW_some] <;> rfl)) | (simp [*, errW_none, errW_some] <;> rfl), by repeat (first | (with_reducible first | exact HB.out | apply below_alloc | apply pw_below_drewN | apply below_drew1 | refine below_set ?_ GE102.out) | exact HB.out)⟩
          ·
           rw [if_neg c11] at H
           exact absurd H (by simp)
         ·
          rw [if_neg c10] at H
          exact absurd H (by simp)
        ·
         rw [if_neg c8] at H
         have c8b0 : decide (0 < x20_1) = false := decide_eq_false c8
         clear c8
         have H' := aa H
         clear H
         have p101 : 0 ≤ (x20_1 : Int) := of_decide_eq_true zgglam
         have q101 : x20_1 < (l0.length : Int) := of_decide_eq_true zgglam
         obtain ⟨ad101, e101, hx101_0, hx101_1, hx101_2, hx101_3, hx101_4⟩ := at_T44 HR0.out x20_1 p101 q101
         cases e101
         replace hx101_0 := pb HB.out hx101_0
         replace hx101_1 := pb HB.out hx101_1
         replace hx101_2 := pb HB.out hx101_2
         replace hx101_3 := pb HB.out hx101_3
         replace hx101_4 := pb HB.out hx101_4
         replace p101 := eq_true p101
         replace q101 := eq_true q101
         go_wp2_with (first | ((with_reducible refine gate_dst (N := 4) rfl ?_); refine box_event ?hg (N := 4) ?hd (cs := #[.string (⟨#[]⟩ : ByteArray), .int .i64 0, .int .i64 0, .int .i64 0, .int .i64 0]) (t := 44) ?hr ?_; (case hd => rfl); (case hg => rfl); (case hr => exact zhlgcp); intro gb102 hg w21 hbox hb; have n0_ := aa (below_step zjjbob hb); have n1_ := aa (hbox); have n2_ := aa ((zkpfjp : w.heap.size ≤ gb102)); have n3_ := aa ((zkpfjp : w.heap.size ≤ gb102)); clear HB; have HB := n0_; have BK102 := n1_; have GW102 := n2_; have GE102 := n3_; clear n0_ n1_ n2_ n3_; clear hb hbox hg; have hcz22_0 : w21.cell? ⟨gb102, 0, none⟩ = some (.string (⟨#[]⟩ : ByteArray)) := (blk_cell BK102.out 0).trans rfl; have hcz22_1 : w21.cell? ⟨gb102, 1, none⟩ = some (.int .i64 0) := (blk_cell BK102.out 1).trans rfl; have hcz22_2 : w21.cell? ⟨gb102, 2, none⟩ = some (.int .i64 0) := (blk_cell BK102.out 2).trans rfl; have hcz22_3 : w21.cell? ⟨gb102, 3, none⟩ = some (.int .i64 0) := (blk_cell BK102.out 3).trans rfl; have hcz22_4 : w21.cell? ⟨gb102, 4, none⟩ = some (.int .i64 0) := (blk_cell BK102.out 4).trans rfl; have hfz22_0 := blk_frozen BK102.out 0; have hfz22_1 := blk_frozen BK102.out 1; have hfz22_2 := blk_frozen BK102.out 2; have hfz22_3 := blk_frozen BK102.out 3; have hfz22_4 := blk_frozen BK102.out 4) | (go_at_call 37; (with_reducible refine (impl_nodeFault.calls k1 ((rd_T44 l0 x20_1).f0) ((rd_T44 l0 x20_1).f1) ((rd_T44 l0 x20_1).f2) ((rd_T44 l0 x20_1).f3) ((rd_T44 l0 x20_1).f4) t103 _ A6.out).mono ?_); rintro e w23 ⟨rfl, hb⟩; have n0_ := aa (blk_below (g := gb102) (o := .cells #[.string ((rd_T44 l0 x20_1).f0), .int .i64 ((rd_T44 l0 x20_1).f1), .int .i64 ((rd_T44 l0 x20_1).f2), .int .i64 ((rd_T44 l0 x20_1).f3), .int .i64 ((rd_T44 l0 x20_1).f4)] 44 (0, 0)) znpgig hb); have n1_ := aa (below_step zndomn hb); clear BK102; clear HB; have BK102 := n0_; have HB := n1_; clear n0_ n1_; (try clear hb); (try clear hb2); (try clear hk); (try clear hi)))
         repeat (go_quiet (fail); try go_wp2)
         go_roundg k1
         case measure => have := HK1.out; omega
         case rel => exact ⟨(wrap64 (x20_1 + 1)), zagbkp, H', ⟨by have := HK1.out; omega⟩, ⟨by repeat (first | (with_reducible first | exact HB.out | apply below_alloc | apply pw_below_drewN | apply below_drew1 | refine below_set ?_ GE102.out) | exact HB.out)⟩⟩
       ·
        rw [if_neg c7] at H
        have c7b0 : (t103 == 0) = false := beq_eq_false_iff_ne.mpr c7
        have c7b1 : (t103 != 0) = true := bne_iff_ne.mpr c7
        obtain rfl := Option.some.inj H
        have p101 : 0 ≤ (x20_1 : Int) := of_decide_eq_true zgglam
        have q101 : x20_1 < (l0.length : Int) := of_decide_eq_true zgglam
        obtain ⟨ad101, e101, hx101_0, hx101_1, hx101_2, hx101_3, hx101_4⟩ := at_T44 HR0.out x20_1 p101 q101
        cases e101
        replace hx101_0 := pb HB.out hx101_0
        replace hx101_1 := pb HB.out hx101_1
        replace hx101_2 := pb HB.out hx101_2
        replace hx101_3 := pb HB.out hx101_3
        replace hx101_4 := pb HB.out hx101_4
        replace p101 := eq_true p101
        replace q101 := eq_true q101
        go_wp2_with (first | ((with_reducible refine gate_dst (N := 4) rfl ?_); refine box_event ?hg (N := 4) ?hd (cs := #[.string (⟨#[]⟩ : ByteArray), .int .i64 0, .int .i64 0, .int .i64 0, .int .i64 0]) (t := 44) ?hr ?_; (case hd => rfl); (case hg => rfl); (case hr => exact zhlgcp); intro gb102 hg w24 hbox hb; have n0_ := aa (below_step zjjbob hb); have n1_ := aa (hbox); have n2_ := aa ((zkpfjp : w.heap.size ≤ gb102)); have n3_ := aa ((zkpfjp : w.heap.size ≤ gb102)); clear HB; have HB := n0_; have BK102 := n1_; have GW102 := n2_; have GE102 := n3_; clear n0_ n1_ n2_ n3_; clear hb hbox hg; have hcz25_0 : w24.cell? ⟨gb102, 0, none⟩ = some (.string (⟨#[]⟩ : ByteArray)) := (blk_cell BK102.out 0).trans rfl; have hcz25_1 : w24.cell? ⟨gb102, 1, none⟩ = some (.int .i64 0) := (blk_cell BK102.out 1).trans rfl; have hcz25_2 : w24.cell? ⟨gb102, 2, none⟩ = some (.int .i64 0) := (blk_cell BK102.out 2).trans rfl; have hcz25_3 : w24.cell? ⟨gb102, 3, none⟩ = some (.int .i64 0) := (blk_cell BK102.out 3).trans rfl; have hcz25_4 : w24.cell? ⟨gb102, 4, none⟩ = some (.int .i64 0) := (blk_cell BK102.out 4).trans rfl; have hfz25_0 := blk_frozen BK102.out 0; have hfz25_1 := blk_frozen BK102.out 1; have hfz25_2 := blk_frozen BK102.out 2; have hfz25_3 := blk_frozen BK102.out 3; have hfz25_4 := blk_frozen BK102.out 4) | (go_at_call 37; (with_reducible refine (impl_nodeFault.calls k1 ((rd_T44 l0 x20_1).f0) ((rd_T44 l0 x20_1).f1) ((rd_T44 l0 x20_1).f2) ((rd_T44 l0 x20_1).f3) ((rd_T44 l0 x20_1).f4) t103 _ A6.out).mono ?_); rintro e w26 ⟨rfl, hb⟩; have n0_ := aa (blk_below (g := gb102) (o := .cells #[.string ((rd_T44 l0 x20_1).f0), .int .i64 ((rd_T44 l0 x20_1).f1), .int .i64 ((rd_T44 l0 x20_1).f2), .int .i64 ((rd_T44 l0 x20_1).f3), .int .i64 ((rd_T44 l0 x20_1).f4)] 44 (0, 0)) znpgig hb); have n1_ := aa (below_step zndomn hb); clear BK102; clear HB; have BK102 := n0_; have HB := n1_; clear n0_ n1_; (try clear hb); (try clear hb2); (try clear hk); (try clear hi)))
        repeat (go_quiet (fail); try go_wp2)
        go_ret
        exact ⟨by first | rfl | (simp [errW_none, errW_some] <;> rfl) | (simp [*, errW_none, errW_some] <;> rfl), by repeat (first | (with_reducible first | exact HB.out | apply below_alloc | apply pw_below_drewN | apply below_drew1 | refine below_set ?_ GE102.out) | exact HB.out)⟩
      ·
       rw [if_neg c5] at H
       exact absurd H (by simp)
     ·
      rw [if_neg c4] at H
      exact absurd H (by simp)
    ·
     rw [if_neg c3] at H
     have c3b0 : decide (x20_1 < (l0.length : Int)) = false := decide_eq_false c3
     clear c3
     replace H := Option.bind_eq_some_iff.mp H
     obtain ⟨⟨t105, t106⟩, A270, H⟩ := H
     replace H : (if t106 = true then (if 0 < (l0.length : Int) then (if 1 ≤ (l0.length : Int) then ((some (l0.drop 1 : List (S44))).bind fun y108 => (impl_TreeFault.l1 k1 l0 (((rd_T44 l0 0).f3) != 0) y108 (y108.length : Int) 0)) else (none)) else (none)) else (some 4)) = some r := H
     have A27 := aa A270
     clear A270
     by_cases c28 : t106 = true
     ·
      subst c28
      have H1 : (if 0 < (l0.length : Int) then (if 1 ≤ (l0.length : Int) then ((some (l0.drop 1 : List (S44))).bind fun y108 => (impl_TreeFault.l1 k1 l0 (((rd_T44 l0 0).f3) != 0) y108 (y108.length : Int) 0)) else (none)) else (none)) = some r := by rw [if_pos rfl] at H; exact H
      clear H
      have H := H1
      clear H1
      by_cases c29 : 0 < (l0.length : Int)
      ·
       rw [if_pos c29] at H
       have c29b0 : decide (0 < (l0.length : Int)) = true := decide_eq_true c29
       have c29b1 : decide (0 < l0.length) = true := decide_eq_true (by omega)
       clear c29
       by_cases c30 : 1 ≤ (l0.length : Int)
       ·
        rw [if_pos c30] at H
        have c30b0 := eq_true c30
        have c30b1 : decide (1 ≤ (l0.length : Int)) = true := decide_eq_true c30
        clear c30
        obtain ⟨y108, hy108⟩ : ∃ y_ : List (S44), y_ = (l0.drop 1) := ⟨_, rfl⟩
        replace H : (impl_TreeFault.l1 k1 l0 (((rd_T44 l0 0).f3) != 0) y108 (y108.length : Int) 0) = some r := by first | (rw [hy108]; with_reducible exact H) | (have H2_ := (Option.bind_some _ _).symm.trans H; rw [hy108]; with_reducible exact H2_) | (have H2_ := (Option.bind_some _ _).symm.trans H; with_reducible exact H2_) | with_reducible exact H | (rw [hy108]; exact H) | exact H
        have Ny108 := aa hy108
        clear hy108
        have H' := aa H
        clear H
        go_wp2_with (first | (go_at_call 36; (with_reducible refine (impl_find.calls k1 _ _ l0 (⟨#[47]⟩ : ByteArray) t105 true _ ?side1 ?side2 A27.out).mono ?_); (case side1 => exact zfmbgg); (case side2 => exact HC0.out); rintro e w31 ⟨rfl, hb⟩; have n0_ := aa (below_step zjjbob hb); clear HB; have HB := n0_; clear n0_; (try clear hb); (try clear hb2); (try clear hk); (try clear hi); have p107 : 0 ≤ (0 : Int) := (by omega); have q107 : 0 < (l0.length : Int) := of_decide_eq_true zgglam; obtain ⟨ad107, e107, hx107_0, hx107_1, hx107_2, hx107_3, hx107_4⟩ := at_T44 HR0.out 0 p107 q107; cases e107; have qi107 : (0 < l0.length) = True := eq_true (by omega); (try rw [show ((0 : Int)).toNat = 0 from rfl] at hx107_0); (try rw [show 0 * 5 = 0 from rfl] at hx107_0); (try rw [Addr.add_zero'] at hx107_0); (try rw [show ((0 : Int)).toNat = 0 from rfl] at hx107_1); (try rw [show 0 * 5 = 0 from rfl] at hx107_1); (try rw [Addr.add_zero'] at hx107_1); (try rw [show ((0 : Int)).toNat = 0 from rfl] at hx107_2); (try rw [show 0 * 5 = 0 from rfl] at hx107_2); (try rw [Addr.add_zero'] at hx107_2); (try rw [show ((0 : Int)).toNat = 0 from rfl] at hx107_3); (try rw [show 0 * 5 = 0 from rfl] at hx107_3); (try rw [Addr.add_zero'] at hx107_3); (try rw [show ((0 : Int)).toNat = 0 from rfl] at hx107_4); (try rw [show 0 * 5 = 0 from rfl] at hx107_4); (try rw [Addr.add_zero'] at hx107_4); replace hx107_0 := pb HB.out hx107_0; replace hx107_1 := pb HB.out hx107_1; replace hx107_2 := pb HB.out hx107_2; replace hx107_3 := pb HB.out hx107_3; replace hx107_4 := pb HB.out hx107_4; replace p107 := eq_true p107; replace q107 := eq_true q107; have q32 : (1 : Int) ≤ ((l0.length : Int) : Int) := of_decide_eq_true zgglam; obtain ⟨i032, hi032, _, hsz32, _⟩ := info_parts info44; have hroom32 : l0.length ≤ c0 := HC0.out; have hC32 : Kd.C k44 _ (some ad107) l0.length l0 := HR0.out; have hcut32 := cut_from (P := Tryd.prog) 25 44 .i64 Tryd.underlying25 hi032 5 hsz32 (some ad107) l0.length c0 1 (by omega) q32; have hr32 := Kd.C_drop (m := (1 : Int).toNat) (c := c0) hC32 (by omega) hroom32; obtain ⟨A32, hA32⟩ : ∃ A1, A1 = (if c0 = (1 : Int).toNat then (some ad107) else ((some ad107) : Option Addr).map (·.add ((1 : Int).toNat * 5))) := ⟨_, rfl⟩; obtain ⟨c32, hc32⟩ : ∃ c1, c1 = c0 - (1 : Int).toNat := ⟨_, rfl⟩; have hy32 : y108.length = l0.length - (1 : Int).toNat := (by rw [Ny108.out, List.length_drop] <;> omega); rw [show (l0).drop (1 : Int).toNat = y108 from Ny108.out.symm] at hr32; replace hr32 : Kd.C k44 _ A32 y108.length y108 := (by rw [hA32]; exact hr32); rw [← hy32, ← hA32, ← hc32] at hcut32; have HR111 := aa hr32; have HC111 := aa (show y108.length ≤ c32 from by rw [hy32, hc32]; exact Nat.sub_le_sub_right hroom32 _); clear hr32 hC32 hroom32 hi032 hsz32 hc32; have KY32 := aa hy32; have KA32 := aa hA32; clear hy32 hA32; replace q32 := eq_true q32))
        repeat (go_quiet (fail); try go_wp2)
        go_loopg [8, 59] k1 (fun kq v8 v59 w' => ∃ (x8_2 : Bool) (x59_2 : Int), v8 = .bool x8_2 ∧ v59 = .int .i64 x59_2 ∧ Aside0 (impl_TreeFault.l1 kq l0 x8_2 y108 (y108.length : Int) x59_2 = some r) ∧ Aside0 (kq ≤ k1) ∧ Aside0 (Below w.heap.size w w'))
        case atStart => exact ⟨((((rd_T44 l0 0).f3) != 0)), (0), zagbkp, zagbkp, H', ⟨Nat.le_refl _⟩, ⟨by repeat (first | (with_reducible first | exact HB.out | apply below_alloc | apply pw_below_drewN | apply below_drew1) | exact HB.out)⟩⟩
        case round =>
         clear H'
         try clear c1
         try clear p1
         try clear q1
         try clear hx1
         try clear qi1
         try clear c2
         try clear c2b0
         try clear c2b1
         try clear p2
         try clear c3
         try clear c3b0
         try clear q3
         try clear c4
         try clear c4b0
         try clear c5
         try clear c5b0
         try clear p6
         try clear c7
         try clear c7b0
         try clear c7b1
         try clear c8
         try clear c8b0
         try clear c10
         try clear c10b0
         try clear p10
         try clear q10
         try clear hx10
         try clear qi10
         try clear c11
         try clear c11b0
         try clear c12
         try clear c12b0
         try clear c21
         try clear c28
         try clear c29
         try clear c29b0
         try clear c29b1
         try clear c30
         try clear c30b0
         try clear c30b1
         try clear c32
         try clear q32
         try clear hcz14_0
         try clear hcz14_1
         try clear hcz14_2
         try clear hcz14_3
         try clear hcz14_4
         try clear hcz16_0
         try clear hcz16_1
         try clear hcz16_2
         try clear hcz16_3
         try clear hcz16_4
         try clear hcz18_0
         try clear hcz18_1
         try clear hcz18_2
         try clear hcz18_3
         try clear hcz18_4
         try clear hcz20_0
         try clear hcz20_1
         try clear hcz20_2
         try clear hcz20_3
         try clear hcz20_4
         try clear hcz22_0
         try clear hcz22_1
         try clear hcz22_2
         try clear hcz22_3
         try clear hcz22_4
         try clear hcz25_0
         try clear hcz25_1
         try clear hcz25_2
         try clear hcz25_3
         try clear hcz25_4
         try clear hfz14_0
         try clear hfz14_1
         try clear hfz14_2
         try clear hfz14_3
         try clear hfz14_4
         try clear hfz16_0
         try clear hfz16_1
         try clear hfz16_2
         try clear hfz16_3
         try clear hfz16_4
         try clear hfz18_0
         try clear hfz18_1
         try clear hfz18_2
         try clear hfz18_3
         try clear hfz18_4
         try clear hfz20_0
         try clear hfz20_1
         try clear hfz20_2
         try clear hfz20_3
         try clear hfz20_4
         try clear hfz22_0
         try clear hfz22_1
         try clear hfz22_2
         try clear hfz22_3
         try clear hfz22_4
         try clear hfz25_0
         try clear hfz25_1
         try clear hfz25_2
         try clear hfz25_3
         try clear hfz25_4
         try clear hx101_0
         try clear hx101_1
         try clear hx101_2
         try clear hx101_3
         try clear hx101_4
         try clear hx104_0
         try clear hx104_1
         try clear hx104_2
         try clear hx104_3
         try clear hx104_4
         try clear hx107_0
         try clear hx107_1
         try clear hx107_2
         try clear hx107_3
         try clear hx107_4
         try clear p101
         try clear p104
         try clear p107
         try clear p2
         try clear q101
         try clear q104
         try clear q107
         try clear q32
         obtain ⟨x8_2, x59_2, rfl, rfl, HA, HK2, HB⟩ := hrel
         cases gk with
         | zero => exact absurd HA.out (by simp [impl_TreeFault.l1])
         | succ k2 =>
          have H := HA.out
          clear HA
          simp only [impl_TreeFault.l1] at H
          by_cases c33 : x59_2 < (y108.length : Int)
          ·
           rw [if_pos c33] at H
           have c33b0 : decide (x59_2 < (y108.length : Int)) = true := decide_eq_true c33
           clear c33
           by_cases c34 : 0 ≤ x59_2
           ·
            rw [if_pos c34] at H
            have c34b0 : decide (0 ≤ x59_2) = true := decide_eq_true c34
            clear c34
            by_cases c35 : x59_2 < (y108.length : Int)
            ·
             rw [if_pos c35] at H
             have c35b0 : decide (x59_2 < (y108.length : Int)) = true := decide_eq_true c35
             clear c35
             replace H := Option.bind_eq_some_iff.mp H
             obtain ⟨⟨t114, t115⟩, A360, H⟩ := H
             replace H : ((impl_find.f k2 l0 t114).bind fun bt116 => (if bt116.2 = true then (if x8_2 = true then (impl_TreeFault.l1 k2 l0 true y108 (y108.length : Int) (wrap64 (x59_2 + 1))) else (if 0 ≤ bt116.1 then (if bt116.1 < (l0.length : Int) then (impl_TreeFault.l1 k2 l0 (((rd_T44 l0 bt116.1).f3) != 0) y108 (y108.length : Int) (wrap64 (x59_2 + 1))) else (none)) else (none))) else (some 4))) = some r := H
             have A36 := aa A360
             clear A360
             replace H := Option.bind_eq_some_iff.mp H
             obtain ⟨⟨t116, t117⟩, A370, H⟩ := H
             replace H : (if t117 = true then (if x8_2 = true then (impl_TreeFault.l1 k2 l0 true y108 (y108.length : Int) (wrap64 (x59_2 + 1))) else (if 0 ≤ t116 then (if t116 < (l0.length : Int) then (impl_TreeFault.l1 k2 l0 (((rd_T44 l0 t116).f3) != 0) y108 (y108.length : Int) (wrap64 (x59_2 + 1))) else (none)) else (none))) else (some 4)) = some r := H
             have A37 := aa A370
             clear A370
             by_cases c38 : t117 = true
             ·
              subst c38
              have H1 : (if x8_2 = true then (impl_TreeFault.l1 k2 l0 true y108 (y108.length : Int) (wrap64 (x59_2 + 1))) else (if 0 ≤ t116 then (if t116 < (l0.length : Int) then (impl_TreeFault.l1 k2 l0 (((rd_T44 l0 t116).f3) != 0) y108 (y108.length : Int) (wrap64 (x59_2 + 1))) else (none)) else (none))) = some r := by rw [if_pos rfl] at H; exact H
              clear H
              have H := H1
              clear H1
              by_cases c39 : x8_2 = true
              ·
               subst c39
               have H1 : (impl_TreeFault.l1 k2 l0 true y108 (y108.length : Int) (wrap64 (x59_2 + 1))) = some r := by rw [if_pos rfl] at H; exact H
               clear H
               have H := H1
               clear H1
               have H' := aa H
               clear H
               have p112 : 0 ≤ (x59_2 : Int) := of_decide_eq_true zgglam
               have q112 : x59_2 < (y108.length : Int) := of_decide_eq_true zgglam
               obtain ⟨ad112, e112, hx112_0, hx112_1, hx112_2, hx112_3, hx112_4⟩ := at_T44 HR111.out x59_2 p112 q112
               cases e112
               replace hx112_0 := pb HB.out hx112_0
               replace hx112_1 := pb HB.out hx112_1
               replace hx112_2 := pb HB.out hx112_2
               replace hx112_3 := pb HB.out hx112_3
               replace hx112_4 := pb HB.out hx112_4
               replace p112 := eq_true p112
               replace q112 := eq_true q112
               go_wp2_with (first | ((with_reducible refine gate_dst (N := 10) rfl ?_); refine box_event ?hg (N := 10) ?hd (cs := #[.string (⟨#[]⟩ : ByteArray), .int .i64 0, .int .i64 0, .int .i64 0, .int .i64 0]) (t := 44) ?hr ?_; (case hd => rfl); (case hg => rfl); (case hr => exact zhlgcp); intro gb113 hg w40 hbox hb; have n0_ := aa (below_step zjjbob hb); have n1_ := aa (hbox); have n2_ := aa ((zkpfjp : w.heap.size ≤ gb113)); have n3_ := aa ((zkpfjp : w.heap.size ≤ gb113)); clear HB; have HB := n0_; have BK113 := n1_; have GW113 := n2_; have GE113 := n3_; clear n0_ n1_ n2_ n3_; clear hb hbox hg; have hcz41_0 : w40.cell? ⟨gb113, 0, none⟩ = some (.string (⟨#[]⟩ : ByteArray)) := (blk_cell BK113.out 0).trans rfl; have hcz41_1 : w40.cell? ⟨gb113, 1, none⟩ = some (.int .i64 0) := (blk_cell BK113.out 1).trans rfl; have hcz41_2 : w40.cell? ⟨gb113, 2, none⟩ = some (.int .i64 0) := (blk_cell BK113.out 2).trans rfl; have hcz41_3 : w40.cell? ⟨gb113, 3, none⟩ = some (.int .i64 0) := (blk_cell BK113.out 3).trans rfl; have hcz41_4 : w40.cell? ⟨gb113, 4, none⟩ = some (.int .i64 0) := (blk_cell BK113.out 4).trans rfl; have hfz41_0 := blk_frozen BK113.out 0; have hfz41_1 := blk_frozen BK113.out 1; have hfz41_2 := blk_frozen BK113.out 2; have hfz41_3 := blk_frozen BK113.out 3; have hfz41_4 := blk_frozen BK113.out 4) | (go_at_call 38; (with_reducible refine (impl_parted.calls k2 ((rd_T44 y108 x59_2).f0) t114 t115 _ A36.out).mono ?_); rintro e w42 ⟨rfl, hb⟩; have n0_ := aa (blk_below (g := gb113) (o := .cells #[.string ((rd_T44 y108 x59_2).f0), .int .i64 ((rd_T44 y108 x59_2).f1), .int .i64 ((rd_T44 y108 x59_2).f2), .int .i64 ((rd_T44 y108 x59_2).f3), .int .i64 ((rd_T44 y108 x59_2).f4)] 44 (0, 0)) zddpcj hb); have n1_ := aa (below_step zaooek hb); clear BK113; clear HB; have BK113 := n0_; have HB := n1_; clear n0_ n1_; (try clear hb); (try clear hb2); (try clear hk); (try clear hi)) | (go_at_call 36; (with_reducible refine (impl_find.calls k2 _ _ l0 t114 t116 true _ ?side1 ?side2 A37.out).mono ?_); (case side1 => exact zfmbgg); (case side2 => exact HC0.out); rintro e w43 ⟨rfl, hb⟩; have n0_ := aa (blk_below (g := gb113) (o := .cells #[.string ((rd_T44 y108 x59_2).f0), .int .i64 ((rd_T44 y108 x59_2).f1), .int .i64 ((rd_T44 y108 x59_2).f2), .int .i64 ((rd_T44 y108 x59_2).f3), .int .i64 ((rd_T44 y108 x59_2).f4)] 44 (0, 0)) (zkjhpm BK113.out) hb); have n1_ := aa (below_step zaooek hb); clear BK113; clear HB; have BK113 := n0_; have HB := n1_; clear n0_ n1_; (try clear hb); (try clear hb2); (try clear hk); (try clear hi)))
               repeat (go_quiet (fail); try go_wp2)
               go_roundg k2
               case measure => have := HK1.out; have := HK2.out; omega
               case rel => exact ⟨(true), (wrap64 (x59_2 + 1)), zagbkp, zagbkp, H', ⟨by have := HK1.out; have := HK2.out; omega⟩, ⟨by repeat (first | (with_reducible first | exact HB.out | apply below_alloc | apply pw_below_drewN | apply below_drew1 | refine below_set ?_ GE113.out) | exact HB.out)⟩⟩
              ·
               replace c39 := Bool.eq_false_iff.mpr c39
               subst c39
               have H1 : (if 0 ≤ t116 then (if t116 < (l0.length : Int) then (impl_TreeFault.l1 k2 l0 (((rd_T44 l0 t116).f3) != 0) y108 (y108.length : Int) (wrap64 (x59_2 + 1))) else (none)) else (none)) = some r := by rw [if_neg (show ¬ (false = true) by decide)] at H; exact H
               clear H
               have H := H1
               clear H1
               by_cases c44 : 0 ≤ t116
               ·
                rw [if_pos c44] at H
                have c44b0 : decide (0 ≤ t116) = true := decide_eq_true c44
                clear c44
                by_cases c45 : t116 < (l0.length : Int)
                ·
                 rw [if_pos c45] at H
                 have c45b0 : decide (t116 < (l0.length : Int)) = true := decide_eq_true c45
                 clear c45
                 have H' := aa H
                 clear H
                 have p112 : 0 ≤ (x59_2 : Int) := of_decide_eq_true zgglam
                 have q112 : x59_2 < (y108.length : Int) := of_decide_eq_true zgglam
                 obtain ⟨ad112, e112, hx112_0, hx112_1, hx112_2, hx112_3, hx112_4⟩ := at_T44 HR111.out x59_2 p112 q112
                 cases e112
                 replace hx112_0 := pb HB.out hx112_0
                 replace hx112_1 := pb HB.out hx112_1
                 replace hx112_2 := pb HB.out hx112_2
                 replace hx112_3 := pb HB.out hx112_3
                 replace hx112_4 := pb HB.out hx112_4
                 replace p112 := eq_true p112
                 replace q112 := eq_true q112
                 go_wp2_with (first | ((with_reducible refine gate_dst (N := 10) rfl ?_); refine box_event ?hg (N := 10) ?hd (cs := #[.string (⟨#[]⟩ : ByteArray), .int .i64 0, .int .i64 0, .int .i64 0, .int .i64 0]) (t := 44) ?hr ?_; (case hd => rfl); (case hg => rfl); (case hr => exact zhlgcp); intro gb113 hg w46 hbox hb; have n0_ := aa (below_step zjjbob hb); have n1_ := aa (hbox); have n2_ := aa ((zkpfjp : w.heap.size ≤ gb113)); have n3_ := aa ((zkpfjp : w.heap.size ≤ gb113)); clear HB; have HB := n0_; have BK113 := n1_; have GW113 := n2_; have GE113 := n3_; clear n0_ n1_ n2_ n3_; clear hb hbox hg; have hcz47_0 : w46.cell? ⟨gb113, 0, none⟩ = some (.string (⟨#[]⟩ : ByteArray)) := (blk_cell BK113.out 0).trans rfl; have hcz47_1 : w46.cell? ⟨gb113, 1, none⟩ = some (.int .i64 0) := (blk_cell BK113.out 1).trans rfl; have hcz47_2 : w46.cell? ⟨gb113, 2, none⟩ = some (.int .i64 0) := (blk_cell BK113.out 2).trans rfl; have hcz47_3 : w46.cell? ⟨gb113, 3, none⟩ = some (.int .i64 0) := (blk_cell BK113.out 3).trans rfl; have hcz47_4 : w46.cell? ⟨gb113, 4, none⟩ = some (.int .i64 0) := (blk_cell BK113.out 4).trans rfl; have hfz47_0 := blk_frozen BK113.out 0; have hfz47_1 := blk_frozen BK113.out 1; have hfz47_2 := blk_frozen BK113.out 2; have hfz47_3 := blk_frozen BK113.out 3; have hfz47_4 := blk_frozen BK113.out 4) | (go_at_call 38; (with_reducible refine (impl_parted.calls k2 ((rd_T44 y108 x59_2).f0) t114 t115 _ A36.out).mono ?_); rintro e w48 ⟨rfl, hb⟩; have n0_ := aa (blk_below (g := gb113) (o := .cells #[.string ((rd_T44 y108 x59_2).f0), .int .i64 ((rd_T44 y108 x59_2).f1), .int .i64 ((rd_T44 y108 x59_2).f2), .int .i64 ((rd_T44 y108 x59_2).f3), .int .i64 ((rd_T44 y108 x59_2).f4)] 44 (0, 0)) zddpcj hb); have n1_ := aa (below_step zaooek hb); clear BK113; clear HB; have BK113 := n0_; have HB := n1_; clear n0_ n1_; (try clear hb); (try clear hb2); (try clear hk); (try clear hi)) | (go_at_call 36; (with_reducible refine (impl_find.calls k2 _ _ l0 t114 t116 true _ ?side1 ?side2 A37.out).mono ?_); (case side1 => exact zfmbgg); (case side2 => exact HC0.out); rintro e w49 ⟨rfl, hb⟩; have n0_ := aa (blk_below (g := gb113) (o := .cells #[.string ((rd_T44 y108 x59_2).f0), .int .i64 ((rd_T44 y108 x59_2).f1), .int .i64 ((rd_T44 y108 x59_2).f2), .int .i64 ((rd_T44 y108 x59_2).f3), .int .i64 ((rd_T44 y108 x59_2).f4)] 44 (0, 0)) (zkjhpm BK113.out) hb); have n1_ := aa (below_step zaooek hb); clear BK113; clear HB; have BK113 := n0_; have HB := n1_; clear n0_ n1_; (try clear hb); (try clear hb2); (try clear hk); (try clear hi); have p118 : 0 ≤ (t116 : Int) := of_decide_eq_true zgglam; have q118 : t116 < (l0.length : Int) := of_decide_eq_true zgglam; obtain ⟨ad118, e118, hx118_0, hx118_1, hx118_2, hx118_3, hx118_4⟩ := at_T44 HR0.out t116 p118 q118; obtain rfl : ad107 = ad118 := (by injection e118); replace hx118_0 := pb HB.out hx118_0; replace hx118_1 := pb HB.out hx118_1; replace hx118_2 := pb HB.out hx118_2; replace hx118_3 := pb HB.out hx118_3; replace hx118_4 := pb HB.out hx118_4; replace p118 := eq_true p118; replace q118 := eq_true q118))
                 repeat (go_quiet (fail); try go_wp2)
                 go_roundg k2
                 case measure => have := HK1.out; have := HK2.out; omega
                 case rel => exact ⟨((((rd_T44 l0 t116).f3) != 0)), (wrap64 (x59_2 + 1)), zagbkp, zagbkp, H', ⟨by have := HK1.out; have := HK2.out; omega⟩, ⟨by repeat (first | (with_reducible first | exact HB.out | apply below_alloc | apply pw_below_drewN | apply below_drew1 | refine below_set ?_ GE113.out) | exact HB.out)⟩⟩
                ·
                 rw [if_neg c45] at H
                 exact absurd H (by simp)
               ·
                rw [if_neg c44] at H
                exact absurd H (by simp)
             ·
              replace c38 := Bool.eq_false_iff.mpr c38
              subst c38
              have H1 : (some 4) = some r := by rw [if_neg (show ¬ (false = true) by decide)] at H; exact H
              clear H
              have H := H1
              clear H1
              obtain rfl := Option.some.inj H
              have p112 : 0 ≤ (x59_2 : Int) := of_decide_eq_true zgglam
              have q112 : x59_2 < (y108.length : Int) := of_decide_eq_true zgglam
              obtain ⟨ad112, e112, hx112_0, hx112_1, hx112_2, hx112_3, hx112_4⟩ := at_T44 HR111.out x59_2 p112 q112
              cases e112
              replace hx112_0 := pb HB.out hx112_0
              replace hx112_1 := pb HB.out hx112_1
              replace hx112_2 := pb HB.out hx112_2
              replace hx112_3 := pb HB.out hx112_3
              replace hx112_4 := pb HB.out hx112_4
              replace p112 := eq_true p112
              replace q112 := eq_true q112
              go_wp2_with (first | ((with_reducible refine gate_dst (N := 10) rfl ?_); refine box_event ?hg (N := 10) ?hd (cs := #[.string (⟨#[]⟩ : ByteArray), .int .i64 0, .int .i64 0, .int .i64 0, .int .i64 0]) (t := 44) ?hr ?_; (case hd => rfl); (case hg => rfl); (case hr => exact zhlgcp); intro gb113 hg w50 hbox hb; have n0_ := aa (below_step zjjbob hb); have n1_ := aa (hbox); have n2_ := aa ((zkpfjp : w.heap.size ≤ gb113)); have n3_ := aa ((zkpfjp : w.heap.size ≤ gb113)); clear HB; have HB := n0_; have BK113 := n1_; have GW113 := n2_; have GE113 := n3_; clear n0_ n1_ n2_ n3_; clear hb hbox hg; have hcz51_0 : w50.cell? ⟨gb113, 0, none⟩ = some (.string (⟨#[]⟩ : ByteArray)) := (blk_cell BK113.out 0).trans rfl; have hcz51_1 : w50.cell? ⟨gb113, 1, none⟩ = some (.int .i64 0) := (blk_cell BK113.out 1).trans rfl; have hcz51_2 : w50.cell? ⟨gb113, 2, none⟩ = some (.int .i64 0) := (blk_cell BK113.out 2).trans rfl; have hcz51_3 : w50.cell? ⟨gb113, 3, none⟩ = some (.int .i64 0) := (blk_cell BK113.out 3).trans rfl; have hcz51_4 : w50.cell? ⟨gb113, 4, none⟩ = some (.int .i64 0) := (blk_cell BK113.out 4).trans rfl; have hfz51_0 := blk_frozen BK113.out 0; have hfz51_1 := blk_frozen BK113.out 1; have hfz51_2 := blk_frozen BK113.out 2; have hfz51_3 := blk_frozen BK113.out 3; have hfz51_4 := blk_frozen BK113.out 4) | (go_at_call 38; (with_reducible refine (impl_parted.calls k2 ((rd_T44 y108 x59_2).f0) t114 t115 _ A36.out).mono ?_); rintro e w52 ⟨rfl, hb⟩; have n0_ := aa (blk_below (g := gb113) (o := .cells #[.string ((rd_T44 y108 x59_2).f0), .int .i64 ((rd_T44 y108 x59_2).f1), .int .i64 ((rd_T44 y108 x59_2).f2), .int .i64 ((rd_T44 y108 x59_2).f3), .int .i64 ((rd_T44 y108 x59_2).f4)] 44 (0, 0)) zddpcj hb); have n1_ := aa (below_step zaooek hb); clear BK113; clear HB; have BK113 := n0_; have HB := n1_; clear n0_ n1_; (try clear hb); (try clear hb2); (try clear hk); (try clear hi)) | (go_at_call 36; (with_reducible refine (impl_find.calls k2 _ _ l0 t114 t116 false _ ?side1 ?side2 A37.out).mono ?_); (case side1 => exact zfmbgg); (case side2 => exact HC0.out); rintro e w53 ⟨rfl, hb⟩; have n0_ := aa (blk_below (g := gb113) (o := .cells #[.string ((rd_T44 y108 x59_2).f0), .int .i64 ((rd_T44 y108 x59_2).f1), .int .i64 ((rd_T44 y108 x59_2).f2), .int .i64 ((rd_T44 y108 x59_2).f3), .int .i64 ((rd_T44 y108 x59_2).f4)] 44 (0, 0)) (zkjhpm BK113.out) hb); have n1_ := aa (below_step zaooek hb); clear BK113; clear HB; have BK113 := n0_; have HB := n1_; clear n0_ n1_; (try clear hb); (try clear hb2); (try clear hk); (try clear hi)))
              repeat (go_quiet (fail); try go_wp2)
              go_ret
              exact ⟨by first | rfl | (simp [errW_none, errW_some] <;> rfl) | (simp [*, errW_none, errW_some] <;> rfl), by repeat (first | (with_reducible first | exact HB.out | apply below_alloc | apply pw_below_drewN | apply below_drew1 | refine below_set ?_ GE113.out) | exact HB.out)⟩
            ·
             rw [if_neg c35] at H
             exact absurd H (by simp)
           ·
            rw [if_neg c34] at H
            exact absurd H (by simp)
          ·
           rw [if_neg c33] at H
           have c33b0 : decide (x59_2 < (y108.length : Int)) = false := decide_eq_false c33
           clear c33
           by_cases c54 : x8_2 = true
           ·
            subst c54
            have H1 : (some 1) = some r := by rw [if_pos rfl] at H; exact H
            clear H
            have H := H1
            clear H1
            obtain rfl := Option.some.inj H
            go_wp2
            repeat (go_quiet (fail); try go_wp2)
            go_ret
            exact ⟨by first | rfl | (simp [errW_none, errW_some] <;> rfl) | (simp [*, errW_none, errW_some] <;> rfl), by repeat (first | (with_reducible first | exact HB.out | apply below_alloc | apply pw_below_drewN | apply below_drew1) | exact HB.out)⟩
           ·
            replace c54 := Bool.eq_false_iff.mpr c54
            subst c54
            have H1 : (some 0) = some r := by rw [if_neg (show ¬ (false = true) by decide)] at H; exact H
            clear H
            have H := H1
            clear H1
            obtain rfl := Option.some.inj H
            go_wp2
            repeat (go_quiet (fail); try go_wp2)
            go_ret
            exact ⟨by first | rfl | (simp [errW_none, errW_some] <;> rfl) | (simp [*, errW_none, errW_some] <;> rfl), by repeat (first | (with_reducible first | exact HB.out | apply below_alloc | apply pw_below_drewN | apply below_drew1) | exact HB.out)⟩
       ·
        rw [if_neg c30] at H
        exact absurd H (by simp)
      ·
       rw [if_neg c29] at H
       exact absurd H (by simp)
     ·
      replace c28 := Bool.eq_false_iff.mpr c28
      subst c28
      have H1 : (some 4) = some r := by rw [if_neg (show ¬ (false = true) by decide)] at H; exact H
      clear H
      have H := H1
      clear H1
      obtain rfl := Option.some.inj H
      go_wp2_with (first | (go_at_call 36; (with_reducible refine (impl_find.calls k1 _ _ l0 (⟨#[47]⟩ : ByteArray) t105 false _ ?side1 ?side2 A27.out).mono ?_); (case side1 => exact zfmbgg); (case side2 => exact HC0.out); rintro e w55 ⟨rfl, hb⟩; have n0_ := aa (below_step zjjbob hb); clear HB; have HB := n0_; clear n0_; (try clear hb); (try clear hb2); (try clear hk); (try clear hi)))
      repeat (go_quiet (fail); try go_wp2)
      go_ret
      exact ⟨by first | rfl | (simp [errW_none, errW_some] <;> rfl) | (simp [*, errW_none, errW_some] <;> rfl), by repeat (first | (with_reducible first | exact HB.out | apply below_alloc | apply pw_below_drewN | apply below_drew1) | exact HB.out)⟩

end Go.Proofs.YtajlnffefoeppaaDoor.Qa

-- By gp.py (wip/gen of the work's repo), a program of this workplace over the kit's print: Lean checks it.
namespace Go.Proofs.YtajlnffefoeppaaDoor.Qa
open Go.RowKit Go.Proofs.YtajlnffefoeppaaDoorW.PrintWords Go.Proofs.YtajlnffefoeppaaDoorW.PrintLast Go.Proofs.YtajlnffefoeppaaDoorW.PrintMore
attribute [local go_sem] max2_int min2_int max_two min_two max_three min_three max_four min_four   -- for this text's walks alone
set_option linter.unusedVariables false
set_option linter.unusedSimpArgs false
set_option maxHeartbeats 8000000
set_option maxRecDepth 100000

/-! ### slices_Index_int64_int64: function 63 -/
def slices_Index_int64_int64.l0 : Nat → List Int → Int → Int → Int → Option (Int)
 | 0, _, _, _, _ => none
 | k + 1, x0, x1, x7, x8 => if x8 < x7 then (if 0 ≤ x8 then (if x8 < (x0.length : Int) then (if x1 = (rd x0 x8) then (some x8) else (slices_Index_int64_int64.l0 k x0 x1 x7 (wrap64 (x8 + 1)))) else (none)) else (none)) else (some (-1))
def slices_Index_int64_int64.f (k : Nat) (l0 : List Int) (a1 : Int) : Option (Int) := slices_Index_int64_int64.l0 k l0 a1 (l0.length : Int) 0
theorem slices_Index_int64_int64.mono_l : ∀ k, (∀ y0 y1 y2 y3, LeO (slices_Index_int64_int64.l0 k y0 y1 y2 y3) (slices_Index_int64_int64.l0 (k + 1) y0 y1 y2 y3))
 | 0 => fun _ _ _ _ r h => by simp [slices_Index_int64_int64.l0] at h
 | k + 1 => by
  have ih0 := slices_Index_int64_int64.mono_l k
  ·
   intro y0 y1 y2 y3
   unfold slices_Index_int64_int64.l0
   repeat' first
   | (with_reducible exact ih0 _ _ _ _)
   | (with_reducible exact LeO.refl _)
   | (with_reducible exact LeO.none _)
   | (with_reducible refine LeO.ite ?_ ?_)
   | (with_reducible refine LeO.bind ?_ (fun _ => ?_))
   | exact ih0 _ _ _ _
   | exact LeO.none _
   | refine LeO.ite ?_ ?_
   | refine LeO.bind ?_ (fun _ => ?_)
theorem slices_Index_int64_int64.mono : ∀ a0 a1 k, LeO (slices_Index_int64_int64.f k a0 a1) (slices_Index_int64_int64.f (k + 1) a0 a1) := by
 intro a0 a1 k
 have ih0 := slices_Index_int64_int64.mono_l k
 unfold slices_Index_int64_int64.f
 repeat' first
   | (with_reducible exact ih0 _ _ _ _)
   | (with_reducible exact LeO.refl _)
   | (with_reducible exact LeO.none _)
   | (with_reducible refine LeO.ite ?_ ?_)
   | (with_reducible refine LeO.bind ?_ (fun _ => ?_))
   | exact ih0 _ _ _ _
   | exact LeO.none _
   | refine LeO.ite ?_ ?_
   | refine LeO.bind ?_ (fun _ => ?_)
theorem slices_Index_int64_int64.calls (k : Nat) (A0 : Option Addr) (c0 : Nat) (l0 : List Int) (a1 : Int) (r : Int) (w : World) (hr0 : Kd.C (Kd.int .i64) w A0 l0.length l0) (hc0 : l0.length ≤ c0) (h : slices_Index_int64_int64.f k l0 a1 = some r) :
  Calls Tryd.prog 63 #[.slice A0 l0.length c0, .int .i64 a1] w fun e w' => e = .returned (.int .i64 r) ∧ Drawn0 w w' := by
 have HR0 := aa hr0
 have HC0 := aa hc0
 clear hr0 hc0
 have H : (slices_Index_int64_int64.l0 k l0 a1 (l0.length : Int) 0) = some r := h
 clear h
 have H' := aa H
 clear H
 go_enter Tryd.func63, Tryd.ntmps63
 go_wp2
 go_loopg [8] k (fun kq v8 w' => ∃ (x8_1 : Int), v8 = .int .i64 x8_1 ∧ Aside0 (slices_Index_int64_int64.l0 kq l0 a1 (l0.length : Int) x8_1 = some r) ∧ Aside0 (kq ≤ k) ∧ Drawn0 w w')
 case atStart => exact ⟨(0), zagbkp, H', ⟨Nat.le_refl _⟩, by repeat (first | exact Drawn0.refl _ | apply Drawn0.step)⟩
 case round =>
  clear H'
  try clear p2
  obtain ⟨x8_1, rfl, HA, HK1, ⟨m1, rfl⟩⟩ := hrel
  cases gk with
  | zero => exact absurd HA.out (by simp [slices_Index_int64_int64.l0])
  | succ k1 =>
   have H := HA.out
   clear HA
   simp only [slices_Index_int64_int64.l0] at H
   by_cases c3 : x8_1 < (l0.length : Int)
   ·
    rw [if_pos c3] at H
    have c3b0 : decide (x8_1 < (l0.length : Int)) = true := decide_eq_true c3
    clear c3
    by_cases c4 : 0 ≤ x8_1
    ·
     rw [if_pos c4] at H
     have c4b0 : decide (0 ≤ x8_1) = true := decide_eq_true c4
     clear c4
     by_cases c5 : x8_1 < (l0.length : Int)
     ·
      rw [if_pos c5] at H
      have c5b0 : decide (x8_1 < (l0.length : Int)) = true := decide_eq_true c5
      clear c5
      by_cases c6 : a1 = (rd l0 x8_1)
      ·
       rw [if_pos c6] at H
       have c6b0 : (a1 == (rd l0 x8_1)) = true := beq_iff_eq.mpr c6
       have c6b1 : (a1 != (rd l0 x8_1)) = false := bne_eq_false_iff_eq.mpr c6
       clear c6
       obtain rfl := Option.some.inj H
       have p101 : 0 ≤ (x8_1 : Int) := of_decide_eq_true zgglam
       have q101 : x8_1 < (l0.length : Int) := of_decide_eq_true zgglam
       obtain ⟨ad101, e101, hx101_0⟩ := Kd.at_int HR0.out x8_1 p101 q101
       cases e101
       replace p101 := eq_true p101
       replace q101 := eq_true q101
       go_wp2
       go_ret
       exact ⟨by first | rfl | (simp; done) | (simp [*]; done), by repeat (first | exact Drawn0.refl _ | apply Drawn0.step)⟩
      ·
       rw [if_neg c6] at H
       have c6b0 : (a1 == (rd l0 x8_1)) = false := beq_eq_false_iff_ne.mpr c6
       have c6b1 : (a1 != (rd l0 x8_1)) = true := bne_iff_ne.mpr c6
       have H' := aa H
       clear H
       have p101 : 0 ≤ (x8_1 : Int) := of_decide_eq_true zgglam
       have q101 : x8_1 < (l0.length : Int) := of_decide_eq_true zgglam
       obtain ⟨ad101, e101, hx101_0⟩ := Kd.at_int HR0.out x8_1 p101 q101
       cases e101
       replace p101 := eq_true p101
       replace q101 := eq_true q101
       go_wp2
       go_roundg k1
       case measure => have := HK1.out; omega
       case rel => exact ⟨(wrap64 (x8_1 + 1)), zagbkp, H', ⟨by have := HK1.out; omega⟩, by repeat (first | exact Drawn0.refl _ | apply Drawn0.step)⟩
     ·
      rw [if_neg c5] at H
      exact absurd H (by simp)
    ·
     rw [if_neg c4] at H
     exact absurd H (by simp)
   ·
    rw [if_neg c3] at H
    have c3b0 : decide (x8_1 < (l0.length : Int)) = false := decide_eq_false c3
    clear c3
    obtain rfl := Option.some.inj H
    go_wp2
    go_ret
    exact ⟨by first | rfl | (simp; done) | (simp [*]; done), by repeat (first | exact Drawn0.refl _ | apply Drawn0.step)⟩

end Go.Proofs.YtajlnffefoeppaaDoor.Qa

-- By gp.py (wip/gen of the work's repo), a program of this workplace over the kit's print: Lean checks it.
namespace Go.Proofs.YtajlnffefoeppaaDoor.Qa
open Go.RowKit Go.Proofs.YtajlnffefoeppaaDoorW.PrintWords Go.Proofs.YtajlnffefoeppaaDoorW.PrintLast Go.Proofs.YtajlnffefoeppaaDoorW.PrintMore
attribute [local go_sem] max2_int min2_int max_two min_two max_three min_three max_four min_four   -- for this text's walks alone
set_option linter.unusedVariables false
set_option linter.unusedSimpArgs false
set_option maxHeartbeats 8000000
set_option maxRecDepth 100000

/-! ### slices_Contains_int64_int64: function 48 -/
def slices_Contains_int64_int64.f (k : Nat) (l0 : List Int) (a1 : Int) : Option (Bool) := (slices_Index_int64_int64.f k l0 a1).bind fun t101 => (some (decide (t101 ≥ 0)))
theorem slices_Contains_int64_int64.mono : ∀ a0 a1 k, LeO (slices_Contains_int64_int64.f k a0 a1) (slices_Contains_int64_int64.f (k + 1) a0 a1) := by
 intro a0 a1 k
 unfold slices_Contains_int64_int64.f
 repeat' first
   | (with_reducible exact slices_Index_int64_int64.mono _ _ _)
   | (with_reducible exact LeO.refl _)
   | (with_reducible exact LeO.none _)
   | (with_reducible refine LeO.ite ?_ ?_)
   | (with_reducible refine LeO.bind ?_ (fun _ => ?_))
   | exact slices_Index_int64_int64.mono _ _ _
   | exact LeO.none _
   | refine LeO.ite ?_ ?_
   | refine LeO.bind ?_ (fun _ => ?_)
theorem slices_Contains_int64_int64.calls (k : Nat) (A0 : Option Addr) (c0 : Nat) (l0 : List Int) (a1 : Int) (r : Bool) (w : World) (hr0 : Kd.C (Kd.int .i64) w A0 l0.length l0) (hc0 : l0.length ≤ c0) (h : slices_Contains_int64_int64.f k l0 a1 = some r) :
  Calls Tryd.prog 48 #[.slice A0 l0.length c0, .int .i64 a1] w fun e w' => e = .returned (.bool r) ∧ Drawn0 w w' := by
 have HR0 := aa hr0
 have HC0 := aa hc0
 clear hr0 hc0
 have H : ((slices_Index_int64_int64.f k l0 a1).bind fun t101 => (some (decide (t101 ≥ 0)))) = some r := h
 clear h
 replace H := Option.bind_eq_some_iff.mp H
 obtain ⟨t101, A30, H⟩ := H
 replace H : (some (decide (t101 ≥ 0))) = some r := H
 have A3 := aa A30
 clear A30
 obtain rfl := Option.some.inj H
 go_enter Tryd.func48, Tryd.ntmps48
 go_wp2_with (first | ((with_reducible refine gate_callee (f := 63) rfl ?_); refine goesL_ (some 7) rfl rfl Tryd.func63 (by kernel_rfl) rfl #[.slice A0 l0.length c0, .int .i64 a1] rfl zjnmae ?_; (with_reducible refine (slices_Index_int64_int64.calls k _ _ l0 a1 t101 _ ?side1 ?side2 A3.out).mono ?_); (case side1 => exact zebgon); (case side2 => exact HC0.out); rintro e w' ⟨rfl, ⟨nd, rfl⟩⟩; refine ⟨_, rfl, ?_⟩))
 go_ret
 exact ⟨by first | rfl | (simp; done) | (simp [*]; done), by repeat (first | exact Drawn0.refl _ | apply Drawn0.step)⟩

end Go.Proofs.YtajlnffefoeppaaDoor.Qa

-- By gp.py (wip/gen of the work's repo), a program of this workplace over the kit's print: Lean checks it.
namespace Go.Proofs.YtajlnffefoeppaaDoor.Qa
open Go.RowKit Go.Proofs.YtajlnffefoeppaaDoorW.PrintWords Go.Proofs.YtajlnffefoeppaaDoorW.PrintLast Go.Proofs.YtajlnffefoeppaaDoorW.PrintMore
attribute [local go_sem] max2_int min2_int max_two min_two max_three min_three max_four min_four   -- for this text's walks alone
set_option linter.unusedVariables false
set_option linter.unusedSimpArgs false
set_option maxHeartbeats 8000000
set_option maxRecDepth 100000

/-! ### impl_dropOwned_1: function 47 -/
def impl_dropOwned_1.f (k : Nat) (a0_0 : ByteArray) (a0_1 : Int) (a0_2 : Int) (a0_3 : Int) (a0_4 : Int) (l1 : List Int) : Option (Bool) := if a0_3 = 0 then (some false) else ((slices_Contains_int64_int64.f k l1 a0_3).bind fun t102 => (some t102))
theorem impl_dropOwned_1.mono : ∀ a0 a1 a2 a3 a4 a5 k, LeO (impl_dropOwned_1.f k a0 a1 a2 a3 a4 a5) (impl_dropOwned_1.f (k + 1) a0 a1 a2 a3 a4 a5) := by
 intro a0 a1 a2 a3 a4 a5 k
 unfold impl_dropOwned_1.f
 repeat' first
   | (with_reducible exact slices_Contains_int64_int64.mono _ _ _)
   | (with_reducible exact LeO.refl _)
   | (with_reducible exact LeO.none _)
   | (with_reducible refine LeO.ite ?_ ?_)
   | (with_reducible refine LeO.bind ?_ (fun _ => ?_))
   | exact slices_Contains_int64_int64.mono _ _ _
   | exact LeO.none _
   | refine LeO.ite ?_ ?_
   | refine LeO.bind ?_ (fun _ => ?_)
theorem impl_dropOwned_1.calls (k : Nat) (a0_0 : ByteArray) (a0_1 : Int) (a0_2 : Int) (a0_3 : Int) (a0_4 : Int) (A1 : Option Addr) (c1 : Nat) (l1 : List Int) (r : Bool) (w : World) (hr1 : Kd.C (Kd.int .i64) w A1 l1.length l1) (hc1 : l1.length ≤ c1) (h : impl_dropOwned_1.f k a0_0 a0_1 a0_2 a0_3 a0_4 l1 = some r) (gx : Nat) (hx : w.heap[gx]? = some (.cells #[.slice A1 l1.length c1] 23 (0, 0))) :
  Calls Tryd.prog 47 #[.agg #[.string a0_0, .int .i64 a0_1, .int .i64 a0_2, .int .i64 a0_3, .int .i64 a0_4], .pointer (some ⟨gx, 0, none⟩)] w fun e w' => e = .returned (.bool r) ∧ Below w.heap.size w w' := by
 have hu23 := Tryd.underlying23
 have HX := aa hx
 clear hx
 have hu44 := Tryd.underlying44
 have HR1 := aa hr1
 have HC1 := aa hc1
 clear hr1 hc1
 have HB := aa (Below.refl w.heap.size w)
 have H : (if a0_3 = 0 then (some false) else ((slices_Contains_int64_int64.f k l1 a0_3).bind fun t102 => (some t102))) = some r := h
 clear h
 by_cases c3 : a0_3 = 0
 ·
  rw [if_pos c3] at H
  have c3b0 : (a0_3 == 0) = true := beq_iff_eq.mpr c3
  have c3b1 : (a0_3 != 0) = false := bne_eq_false_iff_eq.mpr c3
  clear c3
  obtain rfl := Option.some.inj H
  go_enter Tryd.func47, Tryd.ntmps47
  go_wp2_with (first | ((with_reducible refine gate_dst (N := 2) rfl ?_); refine box_event ?hg (N := 2) ?hd (cs := #[.string a0_0, .int .i64 a0_1, .int .i64 a0_2, .int .i64 a0_3, .int .i64 a0_4]) (t := 44) ?hr ?_; (case hd => rfl); (case hg => rfl); (case hr => exact zhlgcp); intro gb101 hg w4 hbox hb; have n0_ := aa (below_step zjjbob hb); have n1_ := aa (hbox); have n2_ := aa ((zkpfjp : w.heap.size ≤ gb101)); have n3_ := aa ((zkpfjp : w.heap.size ≤ gb101)); clear HB; have HB := n0_; have BK101 := n1_; have GW101 := n2_; have GE101 := n3_; clear n0_ n1_ n2_ n3_; clear hb hbox hg; have hcz5_0 : w4.cell? ⟨gb101, 0, none⟩ = some (.string a0_0) := (blk_cell BK101.out 0).trans rfl; have hcz5_1 : w4.cell? ⟨gb101, 1, none⟩ = some (.int .i64 a0_1) := (blk_cell BK101.out 1).trans rfl; have hcz5_2 : w4.cell? ⟨gb101, 2, none⟩ = some (.int .i64 a0_2) := (blk_cell BK101.out 2).trans rfl; have hcz5_3 : w4.cell? ⟨gb101, 3, none⟩ = some (.int .i64 a0_3) := (blk_cell BK101.out 3).trans rfl; have hcz5_4 : w4.cell? ⟨gb101, 4, none⟩ = some (.int .i64 a0_4) := (blk_cell BK101.out 4).trans rfl; have hfz5_0 := blk_frozen BK101.out 0; have hfz5_1 := blk_frozen BK101.out 1; have hfz5_2 := blk_frozen BK101.out 2; have hfz5_3 := blk_frozen BK101.out 3; have hfz5_4 := blk_frozen BK101.out 4; have hcx : w4.cell? ⟨gx, 0, none⟩ = some (.slice A1 l1.length c1) := (blk_cell (blk_below HX.out HB.out) 0).trans rfl))
  go_ret
  exact ⟨by first | rfl | (simp [errW_none, errW_some] <;> rfl) | (simp [*, errW_none, errW_some] <;> rfl), by repeat (first | (with_reducible first | exact HB.out | apply below_alloc | apply pw_below_drewN | apply below_drew1 | refine below_set ?_ GE101.out) | exact HB.out)⟩
 ·
  rw [if_neg c3] at H
  have c3b0 : (a0_3 == 0) = false := beq_eq_false_iff_ne.mpr c3
  have c3b1 : (a0_3 != 0) = true := bne_iff_ne.mpr c3
  replace H := Option.bind_eq_some_iff.mp H
  obtain ⟨t102, A60, H⟩ := H
  replace H : (some t102) = some r := H
  have A6 := aa A60
  clear A60
  obtain rfl := Option.some.inj H
  go_enter Tryd.func47, Tryd.ntmps47
  go_wp2_with (first | ((with_reducible refine gate_dst (N := 2) rfl ?_); refine box_event ?hg (N := 2) ?hd (cs := #[.string a0_0, .int .i64 a0_1, .int .i64 a0_2, .int .i64 a0_3, .int .i64 a0_4]) (t := 44) ?hr ?_; (case hd => rfl); (case hg => rfl); (case hr => exact zhlgcp); intro gb101 hg w7 hbox hb; have n0_ := aa (below_step zjjbob hb); have n1_ := aa (hbox); have n2_ := aa ((zkpfjp : w.heap.size ≤ gb101)); have n3_ := aa ((zkpfjp : w.heap.size ≤ gb101)); clear HB; have HB := n0_; have BK101 := n1_; have GW101 := n2_; have GE101 := n3_; clear n0_ n1_ n2_ n3_; clear hb hbox hg; have hcz8_0 : w7.cell? ⟨gb101, 0, none⟩ = some (.string a0_0) := (blk_cell BK101.out 0).trans rfl; have hcz8_1 : w7.cell? ⟨gb101, 1, none⟩ = some (.int .i64 a0_1) := (blk_cell BK101.out 1).trans rfl; have hcz8_2 : w7.cell? ⟨gb101, 2, none⟩ = some (.int .i64 a0_2) := (blk_cell BK101.out 2).trans rfl; have hcz8_3 : w7.cell? ⟨gb101, 3, none⟩ = some (.int .i64 a0_3) := (blk_cell BK101.out 3).trans rfl; have hcz8_4 : w7.cell? ⟨gb101, 4, none⟩ = some (.int .i64 a0_4) := (blk_cell BK101.out 4).trans rfl; have hfz8_0 := blk_frozen BK101.out 0; have hfz8_1 := blk_frozen BK101.out 1; have hfz8_2 := blk_frozen BK101.out 2; have hfz8_3 := blk_frozen BK101.out 3; have hfz8_4 := blk_frozen BK101.out 4; have hcx : w7.cell? ⟨gx, 0, none⟩ = some (.slice A1 l1.length c1) := (blk_cell (blk_below HX.out HB.out) 0).trans rfl) | (go_at_call 48; (with_reducible refine (slices_Contains_int64_int64.calls k _ _ l1 a0_3 t102 _ ?side1 ?side2 A6.out).mono ?_); (case side1 => exact znmdka); (case side2 => exact HC1.out); rintro e w' ⟨rfl, ⟨nd, rfl⟩⟩))
  go_ret
  exact ⟨by first | rfl | (simp [errW_none, errW_some] <;> rfl) | (simp [*, errW_none, errW_some] <;> rfl), by repeat (first | (with_reducible first | exact HB.out | apply below_alloc | apply pw_below_drewN | apply below_drew1 | refine below_set ?_ GE101.out) | exact HB.out)⟩

end Go.Proofs.YtajlnffefoeppaaDoor.Qa

-- By gp.py (wip/gen of the work's repo), a program of this workplace over the kit's print: Lean checks it.
namespace Go.Proofs.YtajlnffefoeppaaDoor.Qa
open Go.RowKit Go.Proofs.YtajlnffefoeppaaDoorW.PrintWords Go.Proofs.YtajlnffefoeppaaDoorW.PrintLast Go.Proofs.YtajlnffefoeppaaDoorW.PrintMore
attribute [local go_sem] max2_int min2_int max_two min_two max_three min_three max_four min_four   -- for this text's walks alone
set_option linter.unusedVariables false
set_option linter.unusedSimpArgs false
set_option maxHeartbeats 8000000
set_option maxRecDepth 100000

/-! ### slices_IndexFunc_impl_Znode_impl_Znode: function 62 -/
def slices_IndexFunc_impl_Znode_impl_Znode.l0 : Nat → List (S44) → List Int → Int → Int → Option (Int)
 | 0, _, _, _, _ => none
 | k + 1, x0, x1, x7, x8 => if x8 < x7 then (if 0 ≤ x8 then (if x8 < (x0.length : Int) then ((impl_dropOwned_1.f k ((rd_T44 x0 x8).f0) ((rd_T44 x0 x8).f1) ((rd_T44 x0 x8).f2) ((rd_T44 x0 x8).f3) ((rd_T44 x0 x8).f4) x1).bind fun t102 => (if t102 = true then (some x8) else (slices_IndexFunc_impl_Znode_impl_Znode.l0 k x0 x1 x7 (wrap64 (x8 + 1))))) else (none)) else (none)) else (some (-1))
def slices_IndexFunc_impl_Znode_impl_Znode.f (k : Nat) (l0 : List (S44)) (l1 : List Int) : Option (Int) := slices_IndexFunc_impl_Znode_impl_Znode.l0 k l0 l1 (l0.length : Int) 0
theorem slices_IndexFunc_impl_Znode_impl_Znode.mono_l : ∀ k, (∀ y0 y1 y2 y3, LeO (slices_IndexFunc_impl_Znode_impl_Znode.l0 k y0 y1 y2 y3) (slices_IndexFunc_impl_Znode_impl_Znode.l0 (k + 1) y0 y1 y2 y3))
 | 0 => fun _ _ _ _ r h => by simp [slices_IndexFunc_impl_Znode_impl_Znode.l0] at h
 | k + 1 => by
  have ih0 := slices_IndexFunc_impl_Znode_impl_Znode.mono_l k
  ·
   intro y0 y1 y2 y3
   unfold slices_IndexFunc_impl_Znode_impl_Znode.l0
   repeat' first
   | (with_reducible exact ih0 _ _ _ _)
   | (with_reducible exact impl_dropOwned_1.mono _ _ _ _ _ _ _)
   | (with_reducible exact LeO.refl _)
   | (with_reducible exact LeO.none _)
   | (with_reducible refine LeO.ite ?_ ?_)
   | (with_reducible refine LeO.bind ?_ (fun _ => ?_))
   | exact ih0 _ _ _ _
   | exact impl_dropOwned_1.mono _ _ _ _ _ _ _
   | exact LeO.none _
   | refine LeO.ite ?_ ?_
   | refine LeO.bind ?_ (fun _ => ?_)
theorem slices_IndexFunc_impl_Znode_impl_Znode.mono : ∀ a0 a1 k, LeO (slices_IndexFunc_impl_Znode_impl_Znode.f k a0 a1) (slices_IndexFunc_impl_Znode_impl_Znode.f (k + 1) a0 a1) := by
 intro a0 a1 k
 have ih0 := slices_IndexFunc_impl_Znode_impl_Znode.mono_l k
 unfold slices_IndexFunc_impl_Znode_impl_Znode.f
 repeat' first
   | (with_reducible exact ih0 _ _ _ _)
   | (with_reducible exact impl_dropOwned_1.mono _ _ _ _ _ _ _)
   | (with_reducible exact LeO.refl _)
   | (with_reducible exact LeO.none _)
   | (with_reducible refine LeO.ite ?_ ?_)
   | (with_reducible refine LeO.bind ?_ (fun _ => ?_))
   | exact ih0 _ _ _ _
   | exact impl_dropOwned_1.mono _ _ _ _ _ _ _
   | exact LeO.none _
   | refine LeO.ite ?_ ?_
   | refine LeO.bind ?_ (fun _ => ?_)
theorem slices_IndexFunc_impl_Znode_impl_Znode.calls (k : Nat) (A0 : Option Addr) (c0 : Nat) (l0 : List (S44)) (A1 : Option Addr) (c1 : Nat) (l1 : List Int) (r : Int) (w : World) (hr0 : Kd.C k44 w A0 l0.length l0) (hc0 : l0.length ≤ c0) (hr1 : Kd.C (Kd.int .i64) w A1 l1.length l1) (hc1 : l1.length ≤ c1) (h : slices_IndexFunc_impl_Znode_impl_Znode.f k l0 l1 = some r) (gx : Nat) (hx : w.heap[gx]? = some (.cells #[.slice A1 l1.length c1] 23 (0, 0))) :
  Calls Tryd.prog 62 #[.slice A0 l0.length c0, .func (.func 47) #[] #[.pointer (some ⟨gx, 0, none⟩)]] w fun e w' => e = .returned (.int .i64 r) ∧ Below w.heap.size w w' := by
 have hu23 := Tryd.underlying23
 have HX := aa hx
 clear hx
 have hu44 := Tryd.underlying44
 have HR0 := aa hr0
 have HC0 := aa hc0
 clear hr0 hc0
 have HR1 := aa hr1
 have HC1 := aa hc1
 clear hr1 hc1
 have HB := aa (Below.refl w.heap.size w)
 have H : (slices_IndexFunc_impl_Znode_impl_Znode.l0 k l0 l1 (l0.length : Int) 0) = some r := h
 clear h
 have H' := aa H
 clear H
 go_enter Tryd.func62, Tryd.ntmps62
 go_wp2
 go_loopg [8] k (fun kq v8 w' => ∃ (x8_1 : Int), v8 = .int .i64 x8_1 ∧ Aside0 (slices_IndexFunc_impl_Znode_impl_Znode.l0 kq l0 l1 (l0.length : Int) x8_1 = some r) ∧ Aside0 (kq ≤ k) ∧ Aside0 (Below w.heap.size w w'))
 case atStart => exact ⟨(0), zagbkp, H', ⟨Nat.le_refl _⟩, ⟨by repeat (first | (with_reducible first | exact HB.out | apply below_alloc | apply pw_below_drewN | apply below_drew1) | exact HB.out)⟩⟩
 case round =>
  clear H'
  try clear c1
  try clear p2
  obtain ⟨x8_1, rfl, HA, HK1, HB⟩ := hrel
  cases gk with
  | zero => exact absurd HA.out (by simp [slices_IndexFunc_impl_Znode_impl_Znode.l0])
  | succ k1 =>
   have H := HA.out
   clear HA
   simp only [slices_IndexFunc_impl_Znode_impl_Znode.l0] at H
   by_cases c3 : x8_1 < (l0.length : Int)
   ·
    rw [if_pos c3] at H
    have c3b0 : decide (x8_1 < (l0.length : Int)) = true := decide_eq_true c3
    clear c3
    by_cases c4 : 0 ≤ x8_1
    ·
     rw [if_pos c4] at H
     have c4b0 : decide (0 ≤ x8_1) = true := decide_eq_true c4
     clear c4
     by_cases c5 : x8_1 < (l0.length : Int)
     ·
      rw [if_pos c5] at H
      have c5b0 : decide (x8_1 < (l0.length : Int)) = true := decide_eq_true c5
      clear c5
      replace H := Option.bind_eq_some_iff.mp H
      obtain ⟨t102, A60, H⟩ := H
      replace H : (if t102 = true then (some x8_1) else (slices_IndexFunc_impl_Znode_impl_Znode.l0 k1 l0 l1 (l0.length : Int) (wrap64 (x8_1 + 1)))) = some r := H
      have A6 := aa A60
      clear A60
      by_cases c7 : t102 = true
      ·
       subst c7
       have H1 : (some x8_1) = some r := by rw [if_pos rfl] at H; exact H
       clear H
       have H := H1
       clear H1
       obtain rfl := Option.some.inj H
       have p101 : 0 ≤ (x8_1 : Int) := of_decide_eq_true zgglam
       have q101 : x8_1 < (l0.length : Int) := of_decide_eq_true zgglam
       obtain ⟨ad101, e101, hx101_0, hx101_1, hx101_2, hx101_3, hx101_4⟩ := at_T44 HR0.out x8_1 p101 q101
       cases e101
       replace hx101_0 := pb HB.out hx101_0
       replace hx101_1 := pb HB.out hx101_1
       replace hx101_2 := pb HB.out hx101_2
       replace hx101_3 := pb HB.out hx101_3
       replace hx101_4 := pb HB.out hx101_4
       replace p101 := eq_true p101
       replace q101 := eq_true q101
       go_wp2_with (first | (go_at_call 47; (with_reducible refine (impl_dropOwned_1.calls k1 ((rd_T44 l0 x8_1).f0) ((rd_T44 l0 x8_1).f1) ((rd_T44 l0 x8_1).f2) ((rd_T44 l0 x8_1).f3) ((rd_T44 l0 x8_1).f4) A1 c1 l1 true _ ?side1 ?side2 A6.out gx ?sidex).mono ?_); (case sidex => exact zdhpgn); (case side1 => exact znmdka); (case side2 => exact HC1.out); rintro e w8 ⟨rfl, hb⟩; have n0_ := aa (below_step zjjbob hb); clear HB; have HB := n0_; clear n0_; (try clear hb); (try clear hb2); (try clear hk); (try clear hi)))
       go_ret
       exact ⟨by first | rfl | (simp [errW_none, errW_some] <;> rfl) | (simp [*, errW_none, errW_some] <;> rfl), by repeat (first | (with_reducible first | exact HB.out | apply below_alloc | apply pw_below_drewN | apply below_drew1) | exact HB.out)⟩
      ·
       replace c7 := Bool.eq_false_iff.mpr c7
       subst c7
       have H1 : (slices_IndexFunc_impl_Znode_impl_Znode.l0 k1 l0 l1 (l0.length : Int) (wrap64 (x8_1 + 1))) = some r := by rw [if_neg (show ¬ (false = true) by decide)] at H; exact H
       clear H
       have H := H1
       clear H1
       have H' := aa H
       clear H
       have p101 : 0 ≤ (x8_1 : Int) := of_decide_eq_true zgglam
       have q101 : x8_1 < (l0.length : Int) := of_decide_eq_true zgglam
       obtain ⟨ad101, e101, hx101_0, hx101_1, hx101_2, hx101_3, hx101_4⟩ := at_T44 HR0.out x8_1 p101 q101
       cases e101
       replace hx101_0 := pb HB.out hx101_0
       replace hx101_1 := pb HB.out hx101_1
       replace hx101_2 := pb HB.out hx101_2
       replace hx101_3 := pb HB.out hx101_3
       replace hx101_4 := pb HB.out hx101_4
       replace p101 := eq_true p101
       replace q101 := eq_true q101
       go_wp2_with (first | (go_at_call 47; (with_reducible refine (impl_dropOwned_1.calls k1 ((rd_T44 l0 x8_1).f0) ((rd_T44 l0 x8_1).f1) ((rd_T44 l0 x8_1).f2) ((rd_T44 l0 x8_1).f3) ((rd_T44 l0 x8_1).f4) A1 c1 l1 false _ ?side1 ?side2 A6.out gx ?sidex).mono ?_); (case sidex => exact zdhpgn); (case side1 => exact znmdka); (case side2 => exact HC1.out); rintro e w9 ⟨rfl, hb⟩; have n0_ := aa (below_step zjjbob hb); clear HB; have HB := n0_; clear n0_; (try clear hb); (try clear hb2); (try clear hk); (try clear hi)))
       go_roundg k1
       case measure => have := HK1.out; omega
       case rel => exact ⟨(wrap64 (x8_1 + 1)), zagbkp, H', ⟨by have := HK1.out; omega⟩, ⟨by repeat (first | (with_reducible first | exact HB.out | apply below_alloc | apply pw_below_drewN | apply below_drew1) | exact HB.out)⟩⟩
     ·
      rw [if_neg c5] at H
      exact absurd H (by simp)
    ·
     rw [if_neg c4] at H
     exact absurd H (by simp)
   ·
    rw [if_neg c3] at H
    have c3b0 : decide (x8_1 < (l0.length : Int)) = false := decide_eq_false c3
    clear c3
    obtain rfl := Option.some.inj H
    go_wp2
    go_ret
    exact ⟨by first | rfl | (simp [errW_none, errW_some] <;> rfl) | (simp [*, errW_none, errW_some] <;> rfl), by repeat (first | (with_reducible first | exact HB.out | apply below_alloc | apply pw_below_drewN | apply below_drew1) | exact HB.out)⟩

end Go.Proofs.YtajlnffefoeppaaDoor.Qa

-- By gp.py (wip/gen of the work's repo), a program of this workplace over the kit's print: Lean checks it.
namespace Go.Proofs.YtajlnffefoeppaaDoor.Qa
open Go.RowKit Go.Proofs.YtajlnffefoeppaaDoorW.PrintWords Go.Proofs.YtajlnffefoeppaaDoorW.PrintLast Go.Proofs.YtajlnffefoeppaaDoorW.PrintMore
attribute [local go_sem] max2_int min2_int max_two min_two max_three min_three max_four min_four   -- for this text's walks alone
set_option linter.unusedVariables false
set_option linter.unusedSimpArgs false
set_option maxHeartbeats 8000000
set_option maxRecDepth 100000

/-! ### slices_DeleteFunc_impl_Znode_impl_Znode: function 45 -/
def slices_DeleteFunc_impl_Znode_impl_Znode.l0 : Nat → List (S44) → List Int → Int → Int → Option ((List (S44)))
 | 0, _, _, _, _ => none
 | k + 1, x0, x1, x5, x6 => if x6 < (x0.length : Int) then (if 0 ≤ x6 then ((impl_dropOwned_1.f k ((rd_T44 x0 x6).f0) ((rd_T44 x0 x6).f1) ((rd_T44 x0 x6).f2) ((rd_T44 x0 x6).f3) ((rd_T44 x0 x6).f4) x1).bind fun t109 => (if t109 = true then (slices_DeleteFunc_impl_Znode_impl_Znode.l0 k x0 x1 x5 (wrap64 (x6 + 1))) else (if 0 ≤ x5 then (if x5 < (x0.length : Int) then (slices_DeleteFunc_impl_Znode_impl_Znode.l0 k (x0.set (x5 : Int).toNat (⟨(rd_T44 x0 x6).f0, (rd_T44 x0 x6).f1, (rd_T44 x0 x6).f2, (rd_T44 x0 x6).f3, (rd_T44 x0 x6).f4⟩ : S44)) x1 (wrap64 (x5 + 1)) (wrap64 (x6 + 1))) else (none)) else (none)))) else (none)) else (if 0 ≤ x5 then (if x5 < (x0.length : Int) then (if x5 ≤ (x0.length : Int) then (some (x0.take (x5 : Int).toNat)) else (none)) else (none)) else (none))
def slices_DeleteFunc_impl_Znode_impl_Znode.f (k : Nat) (l0 : List (S44)) (l1 : List Int) : Option ((List (S44))) := (slices_IndexFunc_impl_Znode_impl_Znode.f k l0 l1).bind fun t106 => (if t106 = (-1) then (some l0) else (slices_DeleteFunc_impl_Znode_impl_Znode.l0 k l0 l1 t106 (wrap64 (t106 + 1))))
theorem slices_DeleteFunc_impl_Znode_impl_Znode.mono_l : ∀ k, (∀ y0 y1 y2 y3, LeO (slices_DeleteFunc_impl_Znode_impl_Znode.l0 k y0 y1 y2 y3) (slices_DeleteFunc_impl_Znode_impl_Znode.l0 (k + 1) y0 y1 y2 y3))
 | 0 => fun _ _ _ _ r h => by simp [slices_DeleteFunc_impl_Znode_impl_Znode.l0] at h
 | k + 1 => by
  have ih0 := slices_DeleteFunc_impl_Znode_impl_Znode.mono_l k
  ·
   intro y0 y1 y2 y3
   unfold slices_DeleteFunc_impl_Znode_impl_Znode.l0
   repeat' first
   | (with_reducible exact ih0 _ _ _ _)
   | (with_reducible exact impl_dropOwned_1.mono _ _ _ _ _ _ _)
   | (with_reducible exact slices_IndexFunc_impl_Znode_impl_Znode.mono _ _ _)
   | (with_reducible exact LeO.refl _)
   | (with_reducible exact LeO.none _)
   | (with_reducible refine LeO.ite ?_ ?_)
   | (with_reducible refine LeO.bind ?_ (fun _ => ?_))
   | exact ih0 _ _ _ _
   | exact impl_dropOwned_1.mono _ _ _ _ _ _ _
   | exact slices_IndexFunc_impl_Znode_impl_Znode.mono _ _ _
   | exact LeO.none _
   | refine LeO.ite ?_ ?_
   | refine LeO.bind ?_ (fun _ => ?_)
theorem slices_DeleteFunc_impl_Znode_impl_Znode.mono : ∀ a0 a1 k, LeO (slices_DeleteFunc_impl_Znode_impl_Znode.f k a0 a1) (slices_DeleteFunc_impl_Znode_impl_Znode.f (k + 1) a0 a1) := by
 intro a0 a1 k
 have ih0 := slices_DeleteFunc_impl_Znode_impl_Znode.mono_l k
 unfold slices_DeleteFunc_impl_Znode_impl_Znode.f
 repeat' first
   | (with_reducible exact ih0 _ _ _ _)
   | (with_reducible exact impl_dropOwned_1.mono _ _ _ _ _ _ _)
   | (with_reducible exact slices_IndexFunc_impl_Znode_impl_Znode.mono _ _ _)
   | (with_reducible exact LeO.refl _)
   | (with_reducible exact LeO.none _)
   | (with_reducible refine LeO.ite ?_ ?_)
   | (with_reducible refine LeO.bind ?_ (fun _ => ?_))
   | exact ih0 _ _ _ _
   | exact impl_dropOwned_1.mono _ _ _ _ _ _ _
   | exact slices_IndexFunc_impl_Znode_impl_Znode.mono _ _ _
   | exact LeO.none _
   | refine LeO.ite ?_ ?_
   | refine LeO.bind ?_ (fun _ => ?_)
theorem slices_DeleteFunc_impl_Znode_impl_Znode.calls (k : Nat) (P0_ : Nat → Prop) (u9000_ : Value) (l0 : List (S44)) (A1 : Option Addr) (c1 : Nat) (l1 : List Int) (r : List (S44)) (w0 w : World) (hB : Below w0.heap.size w0 w) (ho0 : Kd.R k44 44 w w0.heap.size P0_ u9000_ l0) (hr1 : ∀ W_, Kept w W_ (fun k_ => P0_ k_) → Kd.C (Kd.int .i64) W_ A1 l1.length l1) (hc1 : l1.length ≤ c1) (h : slices_DeleteFunc_impl_Znode_impl_Znode.f k l0 l1 = some r) (gx : Nat) (hx : ∀ W_, Kept w W_ (fun k_ => P0_ k_) → W_.heap[gx]? = some (.cells #[.slice A1 l1.length c1] 23 (0, 0))) :
  Calls Tryd.prog 45 #[u9000_, .func (.func 47) #[] #[.pointer (some ⟨gx, 0, none⟩)]] w fun e w' => ∃ v0_ : Value, e = .returned (v0_) ∧ Kd.R k44 44 w' w0.heap.size (fun k_ => (P0_ k_ ∨ w.heap.size ≤ k_)) v0_ r ∧ Below w0.heap.size w0 w' ∧ Kept w w' (fun k_ => P0_ k_) := by
 have hu23 := Tryd.underlying23
 have HX := aa hx
 clear hx
 have hu44 := Tryd.underlying44
 have HO0 := aa (show Kd.R k44 44 w w0.heap.size (fun k_ => (P0_ k_ ∨ w.heap.size ≤ k_)) u9000_ l0 from Kd.R_mono ho0 (fun k_ hk => (.inl hk)))
 have HR1 := aa hr1
 have HC1 := aa hc1
 clear hr1 hc1
 have HK := aa (Kept.refl w (fun k_ => P0_ k_))
 have HW0 := aa hB.size
 have HB := aa hB
 clear hB
 have H : ((slices_IndexFunc_impl_Znode_impl_Znode.f k l0 l1).bind fun t106 => (if t106 = (-1) then (some l0) else (slices_DeleteFunc_impl_Znode_impl_Znode.l0 k l0 l1 t106 (wrap64 (t106 + 1))))) = some r := h
 clear h
 replace H := Option.bind_eq_some_iff.mp H
 obtain ⟨t106, A30, H⟩ := H
 replace H : (if t106 = (-1) then (some l0) else (slices_DeleteFunc_impl_Znode_impl_Znode.l0 k l0 l1 t106 (wrap64 (t106 + 1)))) = some r := H
 have A3 := aa A30
 clear A30
 by_cases c4 : t106 = (-1)
 ·
  rw [if_pos c4] at H
  have c4b0 : (t106 == (-1)) = true := beq_iff_eq.mpr c4
  have c4b1 : (t106 != (-1)) = false := bne_eq_false_iff_eq.mpr c4
  clear c4
  obtain rfl := Option.some.inj H
  obtain ⟨Ao5, co5, eo5⟩ := Kd.R_slice HO0.out
  subst eo5
  go_enter Tryd.func45, Tryd.ntmps45
  go_wp2_with (first | ((with_reducible refine gate_callee (f := 62) rfl ?_); refine goesL_ (some 10) rfl rfl Tryd.func62 (by kernel_rfl) rfl #[.slice Ao5 l0.length co5, .func (.func 47) #[] #[.pointer (some ⟨gx, 0, none⟩)]] rfl zjnmae ?_; (with_reducible refine (slices_IndexFunc_impl_Znode_impl_Znode.calls k _ _ l0 A1 c1 l1 t106 _ ?side1 ?side2 ?side3 ?side4 A3.out gx ?sidex).mono ?_); (case sidex => exact HX.out _ zfggen); (case side1 => exact zgapdc); (case side2 => exact (Kd.R_reads' HO0.out).2.1); (case side3 => exact Kd.C_kept_now HR1.out zfggen); (case side4 => exact HC1.out); rintro e w6 ⟨rfl, hb⟩; refine ⟨_, rfl, ?_⟩; have n0_ := aa (Kd.R_below (zcaken HO0.out) hb); have n1_ := aa (Kept.below (S := (fun k_ => P0_ k_)) zfggen hb); have n2_ := aa (below_step zjjbob hb); clear HO0; clear HK; clear HB; have HO0 := n0_; have HK := n1_; have HB := n2_; clear n0_ n1_ n2_; (try clear hb); (try clear hb2); (try clear hk); (try clear hi)))
  go_ret
  exact ⟨_, by first | rfl | (simp [errW_none, errW_some] <;> rfl) | (simp [*, errW_none, errW_some] <;> rfl), by (with_reducible repeat (first | apply Kd.R_alloc | apply Kd.R_drewN | apply Kd.R_drew)); exact HO0.out, by repeat (first | (with_reducible first | exact HB.out | apply below_alloc | apply pw_below_drewN | apply below_drew1) | exact HB.out), by repeat (first | (with_reducible first | exact HK.out | apply Kept.alloc | apply Kept.drewN | apply Kept.drew) | exact HK.out)⟩
 ·
  rw [if_neg c4] at H
  have c4b0 : (t106 == (-1)) = false := beq_eq_false_iff_ne.mpr c4
  have c4b1 : (t106 != (-1)) = true := bne_iff_ne.mpr c4
  have H' := aa H
  clear H
  obtain ⟨Ao7, co7, eo7⟩ := Kd.R_slice HO0.out
  subst eo7
  go_enter Tryd.func45, Tryd.ntmps45
  go_wp2_with (first | ((with_reducible refine gate_callee (f := 62) rfl ?_); refine goesL_ (some 10) rfl rfl Tryd.func62 (by kernel_rfl) rfl #[.slice Ao7 l0.length co7, .func (.func 47) #[] #[.pointer (some ⟨gx, 0, none⟩)]] rfl zjnmae ?_; (with_reducible refine (slices_IndexFunc_impl_Znode_impl_Znode.calls k _ _ l0 A1 c1 l1 t106 _ ?side1 ?side2 ?side3 ?side4 A3.out gx ?sidex).mono ?_); (case sidex => exact HX.out _ zfggen); (case side1 => exact zgapdc); (case side2 => exact (Kd.R_reads' HO0.out).2.1); (case side3 => exact Kd.C_kept_now HR1.out zfggen); (case side4 => exact HC1.out); rintro e w8 ⟨rfl, hb⟩; refine ⟨_, rfl, ?_⟩; have n0_ := aa (Kd.R_below (zcaken HO0.out) hb); have n1_ := aa (Kept.below (S := (fun k_ => P0_ k_)) zfggen hb); have n2_ := aa (below_step zjjbob hb); clear HO0; clear HK; clear HB; have HO0 := n0_; have HK := n1_; have HB := n2_; clear n0_ n1_ n2_; (try clear hb); (try clear hb2); (try clear hk); (try clear hi)))
  go_loopg [5, 6] k (fun kq v5 v6 w' => ∃ (x0_1 : List (S44)) (x5_1 : Int) (x6_1 : Int), v5 = .int .i64 x5_1 ∧ v6 = .int .i64 x6_1 ∧ Aside0 (slices_DeleteFunc_impl_Znode_impl_Znode.l0 kq x0_1 l1 x5_1 x6_1 = some r) ∧ Aside0 (kq ≤ k) ∧ Aside0 (Kd.R k44 44 w' w0.heap.size (fun k_ => (P0_ k_ ∨ w.heap.size ≤ k_)) (.slice Ao7 l0.length co7) x0_1) ∧ Aside0 (Kept w w' (fun k_ => P0_ k_)) ∧ Aside0 (Below w0.heap.size w0 w'))
  case atStart => exact ⟨(l0), (t106), (wrap64 (t106 + 1)), zagbkp, zagbkp, H', ⟨Nat.le_refl _⟩, ⟨by (with_reducible repeat (first | apply Kd.R_alloc | apply Kd.R_drewN | apply Kd.R_drew)); exact HO0.out⟩, ⟨by repeat (first | (with_reducible first | exact HK.out | apply Kept.alloc | apply Kept.drewN | apply Kept.drew) | exact HK.out)⟩, ⟨by repeat (first | (with_reducible first | exact HB.out | apply below_alloc | apply pw_below_drewN | apply below_drew1) | exact HB.out)⟩⟩
  case round =>
   clear H'
   try clear c1
   try clear p2
   try clear c4
   try clear c4b0
   try clear c4b1
   try clear c6
   try clear p6
   obtain ⟨x0_1, x5_1, x6_1, rfl, rfl, HA, HK1, HO_0, HK, HB⟩ := hrel
   have hl0_1 := (Kd.R_reads' HO_0.out).1
   rw [hl0_1] at HO_0
   (try simp only [hl0_1])
   cases gk with
   | zero => exact absurd HA.out (by simp [slices_DeleteFunc_impl_Znode_impl_Znode.l0])
   | succ k1 =>
    have H := HA.out
    clear HA
    simp only [slices_DeleteFunc_impl_Znode_impl_Znode.l0] at H
    by_cases c9 : x6_1 < (x0_1.length : Int)
    ·
     rw [if_pos c9] at H
     have c9b0 : decide (x6_1 < (x0_1.length : Int)) = true := decide_eq_true c9
     clear c9
     by_cases c10 : 0 ≤ x6_1
     ·
      rw [if_pos c10] at H
      have c10b0 : decide (0 ≤ x6_1) = true := decide_eq_true c10
      clear c10
      replace H := Option.bind_eq_some_iff.mp H
      obtain ⟨t109, A110, H⟩ := H
      replace H : (if t109 = true then (slices_DeleteFunc_impl_Znode_impl_Znode.l0 k1 x0_1 l1 x5_1 (wrap64 (x6_1 + 1))) else (if 0 ≤ x5_1 then (if x5_1 < (x0_1.length : Int) then (slices_DeleteFunc_impl_Znode_impl_Znode.l0 k1 (x0_1.set (x5_1 : Int).toNat (⟨(rd_T44 x0_1 x6_1).f0, (rd_T44 x0_1 x6_1).f1, (rd_T44 x0_1 x6_1).f2, (rd_T44 x0_1 x6_1).f3, (rd_T44 x0_1 x6_1).f4⟩ : S44)) l1 (wrap64 (x5_1 + 1)) (wrap64 (x6_1 + 1))) else (none)) else (none))) = some r := H
      have A11 := aa A110
      clear A110
      by_cases c12 : t109 = true
      ·
       subst c12
       have H1 : (slices_DeleteFunc_impl_Znode_impl_Znode.l0 k1 x0_1 l1 x5_1 (wrap64 (x6_1 + 1))) = some r := by rw [if_pos rfl] at H; exact H
       clear H
       have H := H1
       clear H1
       have H' := aa H
       clear H
       have p107 : 0 ≤ (x6_1 : Int) := of_decide_eq_true zgglam
       have q107 : x6_1 < (x0_1.length : Int) := of_decide_eq_true zgglam
       obtain ⟨ad107, e107, hx107_0, hx107_1, hx107_2, hx107_3, hx107_4⟩ := at_T44 (Kd.R_reads' HO_0.out).2.2 x6_1 p107 q107
       cases e107
       replace p107 := eq_true p107
       replace q107 := eq_true q107
       go_wp2_with (first | ((with_reducible refine gate_dst (N := 7) rfl ?_); refine box_event ?hg (N := 7) ?hd (cs := #[.string (⟨#[]⟩ : ByteArray), .int .i64 0, .int .i64 0, .int .i64 0, .int .i64 0]) (t := 44) ?hr ?_; (case hd => rfl); (case hg => rfl); (case hr => exact zhlgcp); intro gb108 hg w13 hbox hb; have n0_ := aa (Kd.R_below (Kd.R_elderB (zcaken HO_0.out) gb108 (Nat.le_of_eq hg.symm)) hb); have n1_ := aa (Kept.below (S := (fun k_ => P0_ k_)) zfggen hb); have n2_ := aa (below_step zjjbob hb); have n3_ := aa (hbox); have n4_ := aa ((by rw [hg]; exact zalhnh : w.heap.size ≤ gb108)); have n5_ := aa ((zkpfjp : w0.heap.size ≤ gb108)); clear HO_0; clear HK; clear HB; have HO_0 := n0_; have HK := n1_; have HB := n2_; have BK108 := n3_; have GW108 := n4_; have GE108 := n5_; clear n0_ n1_ n2_ n3_ n4_ n5_; clear hb hbox hg; have hcz14_0 : w13.cell? ⟨gb108, 0, none⟩ = some (.string (⟨#[]⟩ : ByteArray)) := (blk_cell BK108.out 0).trans rfl; have hcz14_1 : w13.cell? ⟨gb108, 1, none⟩ = some (.int .i64 0) := (blk_cell BK108.out 1).trans rfl; have hcz14_2 : w13.cell? ⟨gb108, 2, none⟩ = some (.int .i64 0) := (blk_cell BK108.out 2).trans rfl; have hcz14_3 : w13.cell? ⟨gb108, 3, none⟩ = some (.int .i64 0) := (blk_cell BK108.out 3).trans rfl; have hcz14_4 : w13.cell? ⟨gb108, 4, none⟩ = some (.int .i64 0) := (blk_cell BK108.out 4).trans rfl; have hfz14_0 := blk_frozen BK108.out 0; have hfz14_1 := blk_frozen BK108.out 1; have hfz14_2 := blk_frozen BK108.out 2; have hfz14_3 := blk_frozen BK108.out 3; have hfz14_4 := blk_frozen BK108.out 4) | (go_at_call 47; (with_reducible refine (impl_dropOwned_1.calls k1 ((rd_T44 x0_1 x6_1).f0) ((rd_T44 x0_1 x6_1).f1) ((rd_T44 x0_1 x6_1).f2) ((rd_T44 x0_1 x6_1).f3) ((rd_T44 x0_1 x6_1).f4) A1 c1 l1 true _ ?side1 ?side2 A11.out gx ?sidex).mono ?_); (case sidex => exact HX.out _ zmcfgg); (case side1 => exact Kd.C_kept_now HR1.out zmcfgg); (case side2 => exact HC1.out); rintro e w15 ⟨rfl, hb⟩; have n0_ := aa (Kd.R_below zdhfak hb); have n1_ := aa (blk_below (g := gb108) (o := .cells #[.string ((rd_T44 x0_1 x6_1).f0), .int .i64 ((rd_T44 x0_1 x6_1).f1), .int .i64 ((rd_T44 x0_1 x6_1).f2), .int .i64 ((rd_T44 x0_1 x6_1).f3), .int .i64 ((rd_T44 x0_1 x6_1).f4)] 44 (0, 0)) zhpdmj hb); have n2_ := aa (Kept.below (S := (fun k_ => P0_ k_)) zmcfgg hb); have n3_ := aa (below_step zhbkhd hb); clear HO_0; clear BK108; clear HK; clear HB; have HO_0 := n0_; have BK108 := n1_; have HK := n2_; have HB := n3_; clear n0_ n1_ n2_ n3_; (try clear hb); (try clear hb2); (try clear hk); (try clear hi)))
       (try simp only [← hl0_1])
       go_roundg k1
       case measure => have := HK1.out; omega
       case rel => exact ⟨(x0_1), (x5_1), (wrap64 (x6_1 + 1)), zagbkp, zagbkp, H', ⟨by have := HK1.out; omega⟩, ⟨by (try simp only [hl0_1]); (with_reducible repeat (first | apply Kd.R_alloc | apply Kd.R_drewN | apply Kd.R_drew)); exact Kd.R_mono HO_0.out (fun _ hk => hk.1)⟩, ⟨by repeat (first | (with_reducible first | exact HK.out | apply Kept.alloc | apply Kept.drewN | apply Kept.drew | refine Kept.setCell ?_ (.inr GW108.out) _) | exact HK.out)⟩, ⟨by repeat (first | (with_reducible first | exact HB.out | apply below_alloc | apply pw_below_drewN | apply below_drew1 | refine below_set ?_ GE108.out) | exact HB.out)⟩⟩
      ·
       replace c12 := Bool.eq_false_iff.mpr c12
       subst c12
       have H1 : (if 0 ≤ x5_1 then (if x5_1 < (x0_1.length : Int) then (slices_DeleteFunc_impl_Znode_impl_Znode.l0 k1 (x0_1.set (x5_1 : Int).toNat (⟨(rd_T44 x0_1 x6_1).f0, (rd_T44 x0_1 x6_1).f1, (rd_T44 x0_1 x6_1).f2, (rd_T44 x0_1 x6_1).f3, (rd_T44 x0_1 x6_1).f4⟩ : S44)) l1 (wrap64 (x5_1 + 1)) (wrap64 (x6_1 + 1))) else (none)) else (none)) = some r := by rw [if_neg (show ¬ (false = true) by decide)] at H; exact H
       clear H
       have H := H1
       clear H1
       by_cases c16 : 0 ≤ x5_1
       ·
        rw [if_pos c16] at H
        have c16b0 : decide (0 ≤ x5_1) = true := decide_eq_true c16
        clear c16
        by_cases c17 : x5_1 < (x0_1.length : Int)
        ·
         rw [if_pos c17] at H
         have c17b0 : decide (x5_1 < (x0_1.length : Int)) = true := decide_eq_true c17
         clear c17
         obtain ⟨y110, hy110⟩ : ∃ y_ : List (S44), y_ = (x0_1.set (x5_1 : Int).toNat (⟨(rd_T44 x0_1 x6_1).f0, (rd_T44 x0_1 x6_1).f1, (rd_T44 x0_1 x6_1).f2, (rd_T44 x0_1 x6_1).f3, (rd_T44 x0_1 x6_1).f4⟩ : S44)) := ⟨_, rfl⟩
         replace H : (slices_DeleteFunc_impl_Znode_impl_Znode.l0 k1 y110 l1 (wrap64 (x5_1 + 1)) (wrap64 (x6_1 + 1))) = some r := by first | (rw [hy110]; with_reducible exact H) | (have H2_ := (Option.bind_some _ _).symm.trans H; rw [hy110]; with_reducible exact H2_) | (have H2_ := (Option.bind_some _ _).symm.trans H; with_reducible exact H2_) | with_reducible exact H | (rw [hy110]; exact H) | exact H
         have Ny110 := aa hy110
         clear hy110
         have H' := aa H
         clear H
         have p107 : 0 ≤ (x6_1 : Int) := of_decide_eq_true zgglam
         have q107 : x6_1 < (x0_1.length : Int) := of_decide_eq_true zgglam
         obtain ⟨ad107, e107, hx107_0, hx107_1, hx107_2, hx107_3, hx107_4⟩ := at_T44 (Kd.R_reads' HO_0.out).2.2 x6_1 p107 q107
         cases e107
         replace p107 := eq_true p107
         replace q107 := eq_true q107
         go_wp2_with (first | ((with_reducible refine gate_dst (N := 7) rfl ?_); refine box_event ?hg (N := 7) ?hd (cs := #[.string (⟨#[]⟩ : ByteArray), .int .i64 0, .int .i64 0, .int .i64 0, .int .i64 0]) (t := 44) ?hr ?_; (case hd => rfl); (case hg => rfl); (case hr => exact zhlgcp); intro gb108 hg w19 hbox hb; have n0_ := aa (Kd.R_below (Kd.R_elderB (zcaken HO_0.out) gb108 (Nat.le_of_eq hg.symm)) hb); have n1_ := aa (Kept.below (S := (fun k_ => P0_ k_)) zfggen hb); have n2_ := aa (below_step zjjbob hb); have n3_ := aa (hbox); have n4_ := aa ((by rw [hg]; exact zalhnh : w.heap.size ≤ gb108)); have n5_ := aa ((zkpfjp : w0.heap.size ≤ gb108)); clear HO_0; clear HK; clear HB; have HO_0 := n0_; have HK := n1_; have HB := n2_; have BK108 := n3_; have GW108 := n4_; have GE108 := n5_; clear n0_ n1_ n2_ n3_ n4_ n5_; clear hb hbox hg; have hcz20_0 : w19.cell? ⟨gb108, 0, none⟩ = some (.string (⟨#[]⟩ : ByteArray)) := (blk_cell BK108.out 0).trans rfl; have hcz20_1 : w19.cell? ⟨gb108, 1, none⟩ = some (.int .i64 0) := (blk_cell BK108.out 1).trans rfl; have hcz20_2 : w19.cell? ⟨gb108, 2, none⟩ = some (.int .i64 0) := (blk_cell BK108.out 2).trans rfl; have hcz20_3 : w19.cell? ⟨gb108, 3, none⟩ = some (.int .i64 0) := (blk_cell BK108.out 3).trans rfl; have hcz20_4 : w19.cell? ⟨gb108, 4, none⟩ = some (.int .i64 0) := (blk_cell BK108.out 4).trans rfl; have hfz20_0 := blk_frozen BK108.out 0; have hfz20_1 := blk_frozen BK108.out 1; have hfz20_2 := blk_frozen BK108.out 2; have hfz20_3 := blk_frozen BK108.out 3; have hfz20_4 := blk_frozen BK108.out 4) | (go_at_call 47; (with_reducible refine (impl_dropOwned_1.calls k1 ((rd_T44 x0_1 x6_1).f0) ((rd_T44 x0_1 x6_1).f1) ((rd_T44 x0_1 x6_1).f2) ((rd_T44 x0_1 x6_1).f3) ((rd_T44 x0_1 x6_1).f4) A1 c1 l1 false _ ?side1 ?side2 A11.out gx ?sidex).mono ?_); (case sidex => exact HX.out _ zmcfgg); (case side1 => exact Kd.C_kept_now HR1.out zmcfgg); (case side2 => exact HC1.out); rintro e w21 ⟨rfl, hb⟩; have n0_ := aa (Kd.R_below zdhfak hb); have n1_ := aa (blk_below (g := gb108) (o := .cells #[.string ((rd_T44 x0_1 x6_1).f0), .int .i64 ((rd_T44 x0_1 x6_1).f1), .int .i64 ((rd_T44 x0_1 x6_1).f2), .int .i64 ((rd_T44 x0_1 x6_1).f3), .int .i64 ((rd_T44 x0_1 x6_1).f4)] 44 (0, 0)) zhpdmj hb); have n2_ := aa (Kept.below (S := (fun k_ => P0_ k_)) zmcfgg hb); have n3_ := aa (below_step zhbkhd hb); clear HO_0; clear BK108; clear HK; clear HB; have HO_0 := n0_; have BK108 := n1_; have HK := n2_; have HB := n3_; clear n0_ n1_ n2_ n3_; (try clear hb); (try clear hb2); (try clear hk); (try clear hi); have hcz22_0 : w21.cell? ⟨gb108, 0, none⟩ = some (.string ((rd_T44 x0_1 x6_1).f0)) := (blk_cell BK108.out 0).trans rfl; have hcz22_1 : w21.cell? ⟨gb108, 1, none⟩ = some (.int .i64 ((rd_T44 x0_1 x6_1).f1)) := (blk_cell BK108.out 1).trans rfl; have hcz22_2 : w21.cell? ⟨gb108, 2, none⟩ = some (.int .i64 ((rd_T44 x0_1 x6_1).f2)) := (blk_cell BK108.out 2).trans rfl; have hcz22_3 : w21.cell? ⟨gb108, 3, none⟩ = some (.int .i64 ((rd_T44 x0_1 x6_1).f3)) := (blk_cell BK108.out 3).trans rfl; have hcz22_4 : w21.cell? ⟨gb108, 4, none⟩ = some (.int .i64 ((rd_T44 x0_1 x6_1).f4)) := (blk_cell BK108.out 4).trans rfl; have hfz22_0 := blk_frozen BK108.out 0; have hfz22_1 := blk_frozen BK108.out 1; have hfz22_2 := blk_frozen BK108.out 2; have hfz22_3 := blk_frozen BK108.out 3; have hfz22_4 := blk_frozen BK108.out 4; have p18 : 0 ≤ (x5_1 : Int) := of_decide_eq_true zgglam; have q18 : (x5_1 : Int) < ((x0_1.length : Int) : Int) := of_decide_eq_true zgglam; obtain ⟨go18, co18, eo18, gb18, gl18, cl18, HG18⟩ := Kd.R_form HO_0.out (by omega); (first | cases eo18 | (injection eo18 with ea_ en_ ec_; (first | subst ea_ | (injection ea_ with ea_; subst ea_)); subst ec_; clear en_)); have GB18 := aa gb18; have GG18 := aa HG18; clear gb18 gl18 HG18; have HMgo18 := aa (show (P0_ go18 ∨ w.heap.size ≤ go18) from (HO_0.out.1 _ rfl).1); (first | simp only [add_plain] at hx107_0 | skip); (first | simp only [add_plain] at hx107_1 | skip); (first | simp only [add_plain] at hx107_2 | skip); (first | simp only [add_plain] at hx107_3 | skip); (first | simp only [add_plain] at hx107_4 | skip); obtain ⟨ce18, hcl18, hM18, hcc18, hfr18⟩ := Kd.R_elem HO_0.out z44 (x5_1 : Int) p18 q18; obtain rfl := k44_openM hM18; have hx18_0 : w21.cell? ⟨go18, (x5_1 : Int).toNat * 5, none⟩ = some (.string ((rd_T44 x0_1 x5_1).f0)) := hcc18 0 _ rfl; have hx18_1 : w21.cell? ⟨go18, (x5_1 : Int).toNat * 5 + 1, none⟩ = some (.int .i64 ((rd_T44 x0_1 x5_1).f1)) := hcc18 1 _ rfl; have hx18_2 : w21.cell? ⟨go18, (x5_1 : Int).toNat * 5 + 2, none⟩ = some (.int .i64 ((rd_T44 x0_1 x5_1).f2)) := hcc18 2 _ rfl; have hx18_3 : w21.cell? ⟨go18, (x5_1 : Int).toNat * 5 + 3, none⟩ = some (.int .i64 ((rd_T44 x0_1 x5_1).f3)) := hcc18 3 _ rfl; have hx18_4 : w21.cell? ⟨go18, (x5_1 : Int).toNat * 5 + 4, none⟩ = some (.int .i64 ((rd_T44 x0_1 x5_1).f4)) := hcc18 4 _ rfl; have hf18_0 : w21.frozen? ⟨go18, (x5_1 : Int).toNat * 5, none⟩ = false := hfr18 0; have hf18_1 : w21.frozen? ⟨go18, (x5_1 : Int).toNat * 5 + 1, none⟩ = false := hfr18 1; have hf18_2 : w21.frozen? ⟨go18, (x5_1 : Int).toNat * 5 + 2, none⟩ = false := hfr18 2; have hf18_3 : w21.frozen? ⟨go18, (x5_1 : Int).toNat * 5 + 3, none⟩ = false := hfr18 3; have hf18_4 : w21.frozen? ⟨go18, (x5_1 : Int).toNat * 5 + 4, none⟩ = false := hfr18 4; clear hcl18 hcc18 hfr18 hM18; replace p18 := eq_true p18; replace q18 := eq_true q18; have HX23 := aa (show Kd.R k44 44 w21 w0.heap.size (fun k_ => (P0_ k_ ∨ w.heap.size ≤ k_) ∧ k_ ≠ gb108) (.slice (some ⟨go18, 0, none⟩) x0_1.length co7) x0_1 from (zcaken HO_0.out)); obtain ⟨ce23, hcl23, hM23, hcc23, hfr23⟩ := Kd.R_elem HX23.out z44 (x5_1 : Int) (of_decide_eq_true zgglam) (by have h_ : (x5_1 : Int) < ((x0_1.length : Int) : Int) := of_decide_eq_true zgglam; first | exact h_ | (have e_ := (Kd.R_reads' HO_0.out).1; omega) | simpa using h_); obtain rfl := k44_openM hM23; have HP23 := Kd.R_seg HX23.out (x5_1 : Int) (of_decide_eq_true zgglam) (by have h_ : (x5_1 : Int) < ((x0_1.length : Int) : Int) := of_decide_eq_true zgglam; first | exact h_ | (have e_ := (Kd.R_reads' HO_0.out).1; omega) | simpa using h_) (seg := [.string ((rd_T44 x0_1 x6_1).f0), .int .i64 ((rd_T44 x0_1 x6_1).f1), .int .i64 ((rd_T44 x0_1 x6_1).f2), .int .i64 ((rd_T44 x0_1 x6_1).f3), .int .i64 ((rd_T44 x0_1 x6_1).f4)]) (j := 0) hcl23 hcc23 (show 5 ≤ 5 from by decide) (x' := (⟨(rd_T44 x0_1 x6_1).f0, (rd_T44 x0_1 x6_1).f1, (rd_T44 x0_1 x6_1).f2, (rd_T44 x0_1 x6_1).f3, (rd_T44 x0_1 x6_1).f4⟩ : S44)) (k44_mkM _ _ _ (⟨(rd_T44 x0_1 x6_1).f0, (rd_T44 x0_1 x6_1).f1, (rd_T44 x0_1 x6_1).f2, (rd_T44 x0_1 x6_1).f3, (rd_T44 x0_1 x6_1).f4⟩ : S44) ) (fun _ hk => hk); have hx23_0 := hcc23 0 _ rfl; (try simp only [show (k44).sz = 5 from rfl, Nat.mul_one, Nat.add_zero] at hx23_0); have hf23_0 := hfr23 0; (try simp only [show (k44).sz = 5 from rfl, Nat.mul_one, Nat.add_zero] at hf23_0); have hx23_1 := hcc23 1 _ rfl; (try simp only [show (k44).sz = 5 from rfl, Nat.mul_one, Nat.add_zero] at hx23_1); have hf23_1 := hfr23 1; (try simp only [show (k44).sz = 5 from rfl, Nat.mul_one, Nat.add_zero] at hf23_1); have hx23_2 := hcc23 2 _ rfl; (try simp only [show (k44).sz = 5 from rfl, Nat.mul_one, Nat.add_zero] at hx23_2); have hf23_2 := hfr23 2; (try simp only [show (k44).sz = 5 from rfl, Nat.mul_one, Nat.add_zero] at hf23_2); have hx23_3 := hcc23 3 _ rfl; (try simp only [show (k44).sz = 5 from rfl, Nat.mul_one, Nat.add_zero] at hx23_3); have hf23_3 := hfr23 3; (try simp only [show (k44).sz = 5 from rfl, Nat.mul_one, Nat.add_zero] at hf23_3); have hx23_4 := hcc23 4 _ rfl; (try simp only [show (k44).sz = 5 from rfl, Nat.mul_one, Nat.add_zero] at hx23_4); have hf23_4 := hfr23 4; (try simp only [show (k44).sz = 5 from rfl, Nat.mul_one, Nat.add_zero] at hf23_4); clear hcl23 hcc23 hfr23 hM23) | ((with_reducible refine gate_store (t := 44) (p := 33) rfl ?_); refine store_event (t := 44) (p := 33) (v := ?vo_w24) (w1 := (((((w21.setCell ⟨go18, (x5_1 : Int).toNat * 5, none⟩ (.string ((rd_T44 x0_1 x6_1).f0))).setCell ⟨go18, (x5_1 : Int).toNat * 5 + 1, none⟩ (.int .i64 ((rd_T44 x0_1 x6_1).f1))).setCell ⟨go18, (x5_1 : Int).toNat * 5 + 2, none⟩ (.int .i64 ((rd_T44 x0_1 x6_1).f2))).setCell ⟨go18, (x5_1 : Int).toNat * 5 + 3, none⟩ (.int .i64 ((rd_T44 x0_1 x6_1).f3))).setCell ⟨go18, (x5_1 : Int).toNat * 5 + 4, none⟩ (.int .i64 ((rd_T44 x0_1 x6_1).f4)))) ?hg ?ho ?hn ?hr ?_; (case ho => rfl); (case hg => rfl); (case hn => rfl); (case hr => exact zhlgcp); intro w24 hw; have hg : w21.grownBy w24 (some go18) := (by rw [hw]; exact HP23.2); have hp_ : Kd.R k44 44 w24 w0.heap.size (fun k_ => (P0_ k_ ∨ w.heap.size ≤ k_) ∧ k_ ≠ gb108) (.slice (some ⟨go18, 0, none⟩) x0_1.length co7) y110 := (by rw [hw, Ny110.out]; exact HP23.1); clear HP23; have n0_ := aa (hp_); have n1_ := aa (blk_grown (g := gb108) (o := .cells #[.string ((rd_T44 x0_1 x6_1).f0), .int .i64 ((rd_T44 x0_1 x6_1).f1), .int .i64 ((rd_T44 x0_1 x6_1).f2), .int .i64 ((rd_T44 x0_1 x6_1).f3), .int .i64 ((rd_T44 x0_1 x6_1).f4)] 44 (0, 0)) (zkjhpm BK108.out) hg (Kd.R_away HO_0.out (fun _ hk => hk.2))); have n2_ := aa ((by rw [hw]; exact below_set (below_set (below_set (below_set (below_set (HB.out) GB18.out) GB18.out) GB18.out) GB18.out) GB18.out : Below w0.heap.size w0 w24)); have n3_ := aa (Kept.of_grown (S := (fun k_ => P0_ k_)) hg zmcfgg (fun k_ e_ => (HO_0.out.1 k_ e_).1)); clear HO_0; clear BK108; clear HB; clear HK; have HO_0 := n0_; have BK108 := n1_; have HB := n2_; have HK := n3_; clear n0_ n1_ n2_ n3_; clear hg hw hp_))
         (try simp only [← hl0_1])
         go_roundg k1
         case measure => have := HK1.out; omega
         case rel => exact ⟨(y110), (wrap64 (x5_1 + 1)), (wrap64 (x6_1 + 1)), zagbkp, zagbkp, H', ⟨by have := HK1.out; omega⟩, ⟨by (try simp only [hl0_1]); (with_reducible repeat (first | apply Kd.R_alloc | apply Kd.R_drewN | apply Kd.R_drew)); exact Kd.R_mono HO_0.out (fun _ hk => hk.1)⟩, ⟨by repeat (first | (with_reducible first | exact HK.out | apply Kept.alloc | apply Kept.drewN | apply Kept.drew | refine Kept.setCell ?_ (.inr GW108.out) _) | exact HK.out)⟩, ⟨by repeat (first | (with_reducible first | exact HB.out | apply below_alloc | apply pw_below_drewN | apply below_drew1 | refine below_set ?_ GE108.out) | exact HB.out)⟩⟩
        ·
         rw [if_neg c17] at H
         exact absurd H (by simp)
       ·
        rw [if_neg c16] at H
        exact absurd H (by simp)
     ·
      rw [if_neg c10] at H
      exact absurd H (by simp)
    ·
     rw [if_neg c9] at H
     have c9b0 : decide (x6_1 < (x0_1.length : Int)) = false := decide_eq_false c9
     clear c9
     by_cases c25 : 0 ≤ x5_1
     ·
      rw [if_pos c25] at H
      have c25b0 : decide (0 ≤ x5_1) = true := decide_eq_true c25
      clear c25
      by_cases c26 : x5_1 < (x0_1.length : Int)
      ·
       rw [if_pos c26] at H
       have c26b0 : decide (x5_1 < (x0_1.length : Int)) = true := decide_eq_true c26
       clear c26
       by_cases c27 : x5_1 ≤ (x0_1.length : Int)
       ·
        rw [if_pos c27] at H
        have c27b0 := eq_true c27
        have c27b1 : decide (x5_1 ≤ (x0_1.length : Int)) = true := decide_eq_true c27
        clear c27
        obtain ⟨y112, hy112⟩ : ∃ y_ : List (S44), y_ = (x0_1.take (x5_1 : Int).toNat) := ⟨_, rfl⟩
        replace H : (some y112) = some r := by first | (rw [hy112]; with_reducible exact H) | (have H2_ := (Option.bind_some _ _).symm.trans H; rw [hy112]; with_reducible exact H2_) | (have H2_ := (Option.bind_some _ _).symm.trans H; with_reducible exact H2_) | with_reducible exact H | (rw [hy112]; exact H) | exact H
        have Ny112 := aa hy112
        clear hy112
        obtain rfl := Option.some.inj H
        have hj0 : 0 ≤ (x5_1 : Int) := of_decide_eq_true zgglam
        have hjn0 : (x5_1 : Int) < (x0_1.length : Int) := of_decide_eq_true zgglam
        have hjn : (x5_1 : Int).toNat < x0_1.length := by omega
        obtain ⟨gq, W1, hA, hnc, hcl, hRt, hgr, hok, hbg⟩ := Go.Proofs.YtajlnffefoeppaaDoor.Raw.clear_own (P := Tryd.prog) (fun _ _ _ _ _ _ h => h) HO_0.out (x5_1 : Int).toNat hjn Tryd.underlying25 Tryd.zeroValue44 rfl (by simp [Value.cells, Value.oneCell']) (by decide)
        subst hA
        obtain ⟨i0, hi0, _, hsz0, _⟩ := info_parts info44
        have hcf0 := cut_from (P := Tryd.prog) 25 44 .i64 Tryd.underlying25 hi0 5 hsz0 (some ⟨gq, 0, none⟩) x0_1.length co7 x5_1 hj0 (Int.le_of_lt hjn0)
        have hne : ¬ (co7 = (x5_1 : Int).toNat) := by omega
        have hcf : ∀ W : World, (Instr.slice 25 (.slice (some ⟨gq, 0, none⟩) x0_1.length co7) (some (.int .i64 x5_1)) none none).run Tryd.prog W = .ok (.slice (some ⟨gq, (x5_1 : Int).toNat * 5, none⟩) (x0_1.length - (x5_1 : Int).toNat) (co7 - (x5_1 : Int).toNat)) W := fun W => (hcf0 W).trans (by rw [if_neg hne]; simp only [Option.map_some, add_plain])
        have hct := cut_to (P := Tryd.prog) 25 44 .i64 Tryd.underlying25 hi0 (some ⟨gq, 0, none⟩) x0_1.length co7 x5_1 hj0 (Int.le_of_lt hjn0) hnc
        have HRT := aa (show Kd.R k44 44 W1 w0.heap.size (fun k_ => (P0_ k_ ∨ w.heap.size ≤ k_)) (.slice (some ⟨gq, 0, none⟩) (x5_1 : Int).toNat co7) y112 from by rw [Ny112.out]; exact hRt)
        have HGR := aa hgr
        have HOK := aa hok
        have HBG := aa hbg
        clear hcf0 hRt hgr hok hbg hne hi0 hsz0
        go_wp2_with ((with_reducible refine Go.Proofs.YtajlnffefoeppaaDoor.Raw.gate_clear rfl ?_); refine Go.Proofs.YtajlnffefoeppaaDoor.Raw.ev_clear rfl _ 25 rfl _ rfl (hcl _) ?_)
        go_ret
        exact ⟨_, rfl, HRT.out, pw_below_grown HB.out (some gq) HB.out.size HGR.out (fun k_ hk_ => by rw [← Option.some.inj hk_]; exact HBG.out), Kept.of_grown HGR.out HK.out (fun k_ hk_ => by rw [← Option.some.inj hk_]; exact HOK.out)⟩
       ·
        rw [if_neg c27] at H
        exact absurd H (by simp)
      ·
       rw [if_neg c26] at H
       exact absurd H (by simp)
     ·
      rw [if_neg c25] at H
      exact absurd H (by simp)

end Go.Proofs.YtajlnffefoeppaaDoor.Qa

-- By gp.py (wip/gen of the work's repo), a program of this workplace over the kit's print: Lean checks it.
namespace Go.Proofs.YtajlnffefoeppaaDoor.Qa
open Go.RowKit Go.Proofs.YtajlnffefoeppaaDoorW.PrintWords Go.Proofs.YtajlnffefoeppaaDoorW.PrintLast Go.Proofs.YtajlnffefoeppaaDoorW.PrintMore
attribute [local go_sem] max2_int min2_int max_two min_two max_three min_three max_four min_four   -- for this text's walks alone
set_option linter.unusedVariables false
set_option linter.unusedSimpArgs false
set_option maxHeartbeats 8000000
set_option maxRecDepth 100000

/-! ### slices_Clone_impl_Znode_impl_Znode: function 46 -/
def slices_Clone_impl_Znode_impl_Znode.f (l0 : List (S44)) : Option ((List (S44))) := (some (([] : List (S44)) : List (S44))).bind fun y101 => (if y101.length + l0.length < 2932031007402 then (some (y101 ++ l0)) else (none))
theorem slices_Clone_impl_Znode_impl_Znode.calls_some (ad0 : Addr) (c0 : Nat) (l0 : List (S44)) (r : List (S44)) (w : World) (hr0 : Kd.C k44 w (some ad0) l0.length l0) (hc0 : l0.length ≤ c0) (h : slices_Clone_impl_Znode_impl_Znode.f l0 = some r) :
  Calls Tryd.prog 46 #[.slice (some ad0) l0.length c0] w fun e w' => ∃ v0_ : Value, e = .returned (v0_) ∧ Kd.R k44 44 w' w.heap.size (fun _ => True) v0_ r ∧ Below w.heap.size w w' := by
 have HR0 := aa hr0
 have HC0 := aa hc0
 clear hr0 hc0
 have HB := aa (Below.refl w.heap.size w)
 have H : ((some (([] : List (S44)) : List (S44))).bind fun y101 => (if y101.length + l0.length < 2932031007402 then (some (y101 ++ l0)) else (none))) = some r := h
 clear h
 obtain ⟨y101, hy101⟩ : ∃ y_ : List (S44), y_ = (([] : List (S44))) := ⟨_, rfl⟩
 replace H : (if y101.length + l0.length < 2932031007402 then (some (y101 ++ l0)) else (none)) = some r := by first | (rw [hy101]; with_reducible exact H) | (have H2_ := (Option.bind_some _ _).symm.trans H; rw [hy101]; with_reducible exact H2_) | (have H2_ := (Option.bind_some _ _).symm.trans H; with_reducible exact H2_) | with_reducible exact H | (rw [hy101]; exact H) | exact H
 have Ny101 := aa hy101
 clear hy101
 by_cases c2 : y101.length + l0.length < 2932031007402
 ·
  rw [if_pos c2] at H
  have LMc2 := aa c2
  clear c2
  obtain ⟨y104, hy104⟩ : ∃ y_ : List (S44), y_ = (y101 ++ l0) := ⟨_, rfl⟩
  replace H : (some y104) = some r := by first | (rw [hy104]; with_reducible exact H) | (have H2_ := (Option.bind_some _ _).symm.trans H; rw [hy104]; with_reducible exact H2_) | (have H2_ := (Option.bind_some _ _).symm.trans H; with_reducible exact H2_) | with_reducible exact H | (rw [hy104]; exact H) | exact H
  have Ny104 := aa hy104
  clear hy104
  obtain rfl := Option.some.inj H
  have hnil_ : ∀ W : World, (binOp .eql 25 (.slice (some ad0) l0.length c0) (.slice none 0 0)).run Tryd.prog W = Result.ok (.bool false) W := fun W => Go.run_eql_slice_nil W 25 44 (some ad0) _ _ Tryd.underlying25
  go_enter Tryd.func46, Tryd.ntmps46
  go_wp2_with (first | ((with_reducible refine gate_dst (N := 5) rfl ?_); refine Kd.R_lit k44 _ 44 ?hg (N := 5) ?hd (xs := ([] : List (S44))) (inner := []) (ok := fun _ => True) (okp := fun _ => True) ?hr ?hp (fun _ hk => hk) trivial (Below.refl _ _) (Nat.le_refl _) (by simp) ?_; (case hd => rfl); (case hg => rfl); (case hr => exact zhlgcp); (case hp => exact (Reps.none _ _)); intro v102 w3 ho4 hb hg_ hnew_; clear hg_ hnew_; (first | rw [← Ny101.out] at ho4 | (simp only [Int.reduceToNat] at ho4; rw [← Ny101.out] at ho4)); have n0_ := aa (Kd.R_lower ho4 (below_size zjjbob)); have n1_ := aa (below_step zjjbob hb); clear HB; have HO103 := n0_; have HB := n1_; clear n0_ n1_; clear hb ho4) | ((with_reducible refine gate_builtin (b := .append) (xs := #[.tmp 5, .tmp 6]) rfl ?_); at_builtin; refine Kd.R_append_rows k44 (w0 := w) w.heap.size rfl (.tmp 5) (.tmp 6) 25 44 (.agg #[(.string ⟨#[]⟩), (.int .i64 0), (.int .i64 0), (.int .i64 0), (.int .i64 0)]) 48 rfl Tryd.underlying25 info44 rfl (by decide) (by omega) v102 y101 l0 _ _ _ (fun _ => True) (fun _ => False) rfl rfl ?aO ?aR (fun _ _ h => h) (fun _ h => h.elim) ?aF ?aB ?aS ?aL ?_; (case aR => exact zfmbgg); (case aB => exact zjjbob); (case aF => exact (fun _ _ => trivial)); (case aO => exact (zcaken HO103.out)); (case aS => exact (below_size zjjbob)); (case aL => have := LMc2.out; omega); intro v105 w5 ho hb hg hat; rw [← Ny104.out] at ho; have n0_ := aa (hb); have n1_ := aa (ho); clear HB; clear HO103; have HB := n0_; have HO106 := n1_; clear n0_ n1_; clear ho hb hg hat))
  go_ret
  exact ⟨_, by first | rfl | (simp [errW_none, errW_some] <;> rfl) | (simp [*, errW_none, errW_some] <;> rfl), by (with_reducible repeat (first | apply Kd.R_alloc | apply Kd.R_drewN | apply Kd.R_drew)); exact HO106.out, by repeat (first | (with_reducible first | exact HB.out | apply below_alloc | apply pw_below_drewN | apply below_drew1) | exact HB.out)⟩
 ·
  rw [if_neg c2] at H
  exact absurd H (by simp)
theorem slices_Clone_impl_Znode_impl_Znode.calls_none (c0 : Nat) (w : World) :
  Calls Tryd.prog 46 #[.slice none 0 c0] w fun e w' => e = .returned (.slice none 0 0) ∧ Drawn0 w w' := by
 have hnil_ : ∀ W : World, (binOp .eql 25 (.slice none 0 c0) (.slice none 0 0)).run Tryd.prog W = Result.ok (.bool true) W := fun W => Go.run_eql_slice_nil W 25 44 none _ _ Tryd.underlying25
 go_enter Tryd.func46, Tryd.ntmps46
 go_wp2
 go_ret
 exact ⟨rfl, by repeat (first | exact Drawn0.refl _ | apply Drawn0.step)⟩
theorem slices_Clone_impl_Znode_impl_Znode.calls (A0 : Option Addr) (c0 : Nat) (l0 : List (S44)) (r : List (S44)) (w : World) (hr0 : Kd.C k44 w A0 l0.length l0) (hc0 : l0.length ≤ c0) (h : slices_Clone_impl_Znode_impl_Znode.f l0 = some r) :
  Calls Tryd.prog 46 #[.slice A0 l0.length c0] w fun e w' => ∃ v0_ : Value, e = .returned (v0_) ∧ Kd.R k44 44 w' w.heap.size (fun _ => True) v0_ r ∧ Below w.heap.size w w' := by
 cases A0 with
 | some ad0 => exact slices_Clone_impl_Znode_impl_Znode.calls_some ad0 c0 l0 r w hr0 hc0 h
 | none =>
  have hl : l0 = [] := by
   cases l0 with
   | nil => rfl
   | cons x l =>
    obtain ⟨ad, hA, _⟩ := hr0.2.2 (by simp)
    cases hA
  subst hl
  have hr : r = [] := by
   unfold slices_Clone_impl_Znode_impl_Znode.f at h
   simpa using h.symm
  subst hr
  refine (slices_Clone_impl_Znode_impl_Znode.calls_none c0 w).mono ?_
  rintro e w' ⟨rfl, hd⟩
  exact ⟨_, rfl, Kd.R_nil _ _ _ _ _, hd.below⟩

end Go.Proofs.YtajlnffefoeppaaDoor.Qa

-- By gp.py (wip/gen of the work's repo), a program of this workplace over the kit's print: Lean checks it.
namespace Go.Proofs.YtajlnffefoeppaaDoor.Qa
open Go.RowKit Go.Proofs.YtajlnffefoeppaaDoorW.PrintWords Go.Proofs.YtajlnffefoeppaaDoorW.PrintLast Go.Proofs.YtajlnffefoeppaaDoorW.PrintMore
attribute [local go_sem] max2_int min2_int max_two min_two max_three min_three max_four min_four   -- for this text's walks alone
set_option linter.unusedVariables false
set_option linter.unusedSimpArgs false
set_option maxHeartbeats 8000000
set_option maxRecDepth 100000

/-! ### impl_dropOwned: function 27 -/
def impl_dropOwned.f (k : Nat) (l0 : List (S44)) (l1 : List Int) : Option ((List (S44))) := (slices_Clone_impl_Znode_impl_Znode.f l0).bind fun t101 => ((slices_DeleteFunc_impl_Znode_impl_Znode.f k t101 l1).bind fun t104 => (some t104))
theorem impl_dropOwned.mono : ∀ a0 a1 k, LeO (impl_dropOwned.f k a0 a1) (impl_dropOwned.f (k + 1) a0 a1) := by
 intro a0 a1 k
 unfold impl_dropOwned.f
 repeat' first
   | (with_reducible exact slices_DeleteFunc_impl_Znode_impl_Znode.mono _ _ _)
   | (with_reducible exact LeO.refl _)
   | (with_reducible exact LeO.none _)
   | (with_reducible refine LeO.ite ?_ ?_)
   | (with_reducible refine LeO.bind ?_ (fun _ => ?_))
   | exact slices_DeleteFunc_impl_Znode_impl_Znode.mono _ _ _
   | exact LeO.none _
   | refine LeO.ite ?_ ?_
   | refine LeO.bind ?_ (fun _ => ?_)
theorem impl_dropOwned.calls (k : Nat) (A0 : Option Addr) (c0 : Nat) (l0 : List (S44)) (A1 : Option Addr) (c1 : Nat) (l1 : List Int) (r : List (S44)) (w : World) (hr0 : Kd.C k44 w A0 l0.length l0) (hc0 : l0.length ≤ c0) (hr1 : Kd.C (Kd.int .i64) w A1 l1.length l1) (hc1 : l1.length ≤ c1) (h : impl_dropOwned.f k l0 l1 = some r) :
  Calls Tryd.prog 27 #[.slice A0 l0.length c0, .slice A1 l1.length c1] w fun e w' => ∃ v0_ : Value, e = .returned (v0_) ∧ Kd.R k44 44 w' w.heap.size (fun _ => True) v0_ r ∧ Below w.heap.size w w' := by
 have HR0 := aa hr0
 have HC0 := aa hc0
 clear hr0 hc0
 have hu23 := Tryd.underlying23
 have HR1 := aa hr1
 have HC1 := aa hc1
 clear hr1 hc1
 have HB := aa (Below.refl w.heap.size w)
 have H : ((slices_Clone_impl_Znode_impl_Znode.f l0).bind fun t101 => ((slices_DeleteFunc_impl_Znode_impl_Znode.f k t101 l1).bind fun t104 => (some t104))) = some r := h
 clear h
 replace H := Option.bind_eq_some_iff.mp H
 obtain ⟨t101, A30, H⟩ := H
 replace H : ((slices_DeleteFunc_impl_Znode_impl_Znode.f k t101 l1).bind fun t104 => (some t104)) = some r := H
 have A3 := aa A30
 clear A30
 replace H := Option.bind_eq_some_iff.mp H
 obtain ⟨t104, A40, H⟩ := H
 replace H : (some t104) = some r := H
 have A4 := aa A40
 clear A40
 obtain rfl := Option.some.inj H
 go_enter Tryd.func27, Tryd.ntmps27
 go_wp2_with (first | ((with_reducible refine gate_dst (N := 3) rfl ?_); refine box_event ?hg (N := 3) ?hd (cs := #[.slice A1 l1.length c1]) (t := 23) ?hr ?_; (case hd => rfl); (case hg => rfl); (case hr => exact zhlgcp); intro gx hg wx hbox hb; have n0_ := aa (below_step zjjbob hb); have HX := aa hbox; clear HB; have HB := n0_; clear n0_ hb hbox hg) | ((with_reducible refine gate_callee (f := 46) rfl ?_); refine goesL_ (some 6) rfl rfl Tryd.func46 (by kernel_rfl) rfl #[.slice A0 l0.length c0] rfl zjnmae ?_; (with_reducible refine (slices_Clone_impl_Znode_impl_Znode.calls _ _ l0 t101 _ ?side1 ?side2 A3.out).mono ?_); (case side1 => exact zfmbgg); (case side2 => exact HC0.out); rintro e w5 ⟨v102, rfl, ho0, hb⟩; refine ⟨_, rfl, ?_⟩; have nx_ := aa (blk_below (zkjhpm HX.out) hb); clear HX; have HX := nx_; clear nx_; have n0_ := aa (Kd.R_lower ho0 (below_size zjjbob)); have n1_ := aa (below_step zjjbob hb); clear HB; have HO103 := n0_; have HB := n1_; clear n0_ n1_; (try clear hb); (try clear hb2); (try clear hk); (try clear hi); (try clear ho0); obtain ⟨Ao6, co6, eo6⟩ := Kd.R_slice HO103.out; subst eo6) | ((with_reducible refine gate_callee (f := 45) rfl ?_); refine goesL_ (some 8) rfl rfl Tryd.func45 (by kernel_rfl) rfl #[.slice Ao6 t101.length co6, .func (.func 47) #[] #[.pointer (some ⟨gx, 0, none⟩)]] rfl zjnmae ?_; (with_reducible refine (slices_DeleteFunc_impl_Znode_impl_Znode.calls k (fun k_ => some k_ = (.slice Ao6 t101.length co6 : Value).ownBlock) (.slice Ao6 t101.length co6) t101 A1 c1 l1 t104 w _ ?side1 ?side2 ?side3 ?side4 A4.out gx ?sidex).mono ?_); (case sidex => exact (fun W_ hk_ => blk_kept (zkjhpm HX.out) hk_ (fun hs_ => ((Kd.R_types HO103.out (zkjhpm HX.out) (by decide)).1 gx hs_.symm).2 rfl))); (case side1 => exact zjjbob); (case side2 => exact Kd.R_tight rfl HO103.out); (case side3 => exact Kd.C_kept_came (Kd.heap_int .i64) HR1.out zjjbob (fun k_ hs_ => (fun e_ => Kd.R_base HO103.out k_ e_.symm) hs_)); (case side4 => exact HC1.out); rintro e w7 ⟨v105, rfl, ho0, hb, hkp⟩; refine ⟨_, rfl, ?_⟩; have n0_ := aa (Kd.R_mono (ok' := fun k_ => True) ho0 (fun k_ hk_ => trivial)); have n1_ := aa (hb); clear HB; clear HO103; have HO106 := n0_; have HB := n1_; clear n0_ n1_; (try clear hb); (try clear hkp); (try clear ho0)))
 go_ret
 exact ⟨_, by first | rfl | (simp [errW_none, errW_some] <;> rfl) | (simp [*, errW_none, errW_some] <;> rfl), by (with_reducible repeat (first | apply Kd.R_alloc | apply Kd.R_drewN | apply Kd.R_drew)); exact HO106.out, by repeat (first | (with_reducible first | exact HB.out | apply below_alloc | apply pw_below_drewN | apply below_drew1) | exact HB.out)⟩

end Go.Proofs.YtajlnffefoeppaaDoor.Qa

-- By gp.py (wip/gen of the work's repo), a program of this workplace over the kit's print: Lean checks it.
namespace Go.Proofs.YtajlnffefoeppaaDoor.Qa
open Go.RowKit Go.Proofs.YtajlnffefoeppaaDoorW.PrintWords Go.Proofs.YtajlnffefoeppaaDoorW.PrintLast Go.Proofs.YtajlnffefoeppaaDoorW.PrintMore
attribute [local go_sem] max2_int min2_int max_two min_two max_three min_three max_four min_four   -- for this text's walks alone
set_option linter.unusedVariables false
set_option linter.unusedSimpArgs false
set_option maxHeartbeats 8000000
set_option maxRecDepth 100000

/-! ### impl_DropOwned: function 9 -/
def impl_DropOwned.f (k : Nat) (l0 : List (S44)) (l1 : List Int) : Option (Int × ByteArray × (List (S44))) := (impl_TreeFault.f k l0).bind fun t102 => (if t102 = 0 then (if (l1.length : Int) > 9 then (some (2, (⟨#[]⟩ : ByteArray), ([] : List (S44)))) else ((impl_dropOwned.f k l0 l1).bind fun t103 => (some (0, (⟨#[]⟩ : ByteArray), t103)))) else (some (t102, (⟨#[]⟩ : ByteArray), ([] : List (S44)))))
theorem impl_DropOwned.mono : ∀ a0 a1 k, LeO (impl_DropOwned.f k a0 a1) (impl_DropOwned.f (k + 1) a0 a1) := by
 intro a0 a1 k
 unfold impl_DropOwned.f
 repeat' first
   | (with_reducible exact impl_TreeFault.mono _ _)
   | (with_reducible exact impl_dropOwned.mono _ _ _)
   | (with_reducible exact LeO.refl _)
   | (with_reducible exact LeO.none _)
   | (with_reducible refine LeO.ite ?_ ?_)
   | (with_reducible refine LeO.bind ?_ (fun _ => ?_))
   | exact impl_TreeFault.mono _ _
   | exact impl_dropOwned.mono _ _ _
   | exact LeO.none _
   | refine LeO.ite ?_ ?_
   | refine LeO.bind ?_ (fun _ => ?_)
theorem impl_DropOwned.calls (k : Nat) (A0 : Option Addr) (c0 : Nat) (l0 : List (S44)) (A1 : Option Addr) (c1 : Nat) (l1 : List Int) (r1 : Int) (r2 : ByteArray) (r3 : List (S44)) (w : World) (hr0 : Kd.C k44 w A0 l0.length l0) (hc0 : l0.length ≤ c0) (hr1 : Kd.C (Kd.int .i64) w A1 l1.length l1) (hc1 : l1.length ≤ c1) (h : impl_DropOwned.f k l0 l1 = some (r1, r2, r3)) :
  Calls Tryd.prog 9 #[.slice A0 l0.length c0, .slice A1 l1.length c1] w fun e w' => ∃ v2_ : Value, e = .returned (.agg #[.int .i64 r1, .string r2, v2_]) ∧ Kd.R k44 44 w' w.heap.size (fun _ => True) v2_ r3 ∧ Below w.heap.size w w' := by
 have hu27 := Tryd.underlying27
 have HR0 := aa hr0
 have HC0 := aa hc0
 clear hr0 hc0
 have HR1 := aa hr1
 have HC1 := aa hc1
 clear hr1 hc1
 have HB := aa (Below.refl w.heap.size w)
 have H : ((impl_TreeFault.f k l0).bind fun t102 => (if t102 = 0 then (if (l1.length : Int) > 9 then (some (2, (⟨#[]⟩ : ByteArray), ([] : List (S44)))) else ((impl_dropOwned.f k l0 l1).bind fun t103 => (some (0, (⟨#[]⟩ : ByteArray), t103)))) else (some (t102, (⟨#[]⟩ : ByteArray), ([] : List (S44)))))) = some (r1, r2, r3) := h
 clear h
 replace H := Option.bind_eq_some_iff.mp H
 obtain ⟨t102, A30, H⟩ := H
 replace H : (if t102 = 0 then (if (l1.length : Int) > 9 then (some (2, (⟨#[]⟩ : ByteArray), ([] : List (S44)))) else ((impl_dropOwned.f k l0 l1).bind fun t103 => (some (0, (⟨#[]⟩ : ByteArray), t103)))) else (some (t102, (⟨#[]⟩ : ByteArray), ([] : List (S44))))) = some (r1, r2, r3) := H
 have A3 := aa A30
 clear A30
 by_cases c4 : t102 = 0
 ·
  rw [if_pos c4] at H
  have c4b0 : (t102 == 0) = true := beq_iff_eq.mpr c4
  have c4b1 : (t102 != 0) = false := bne_eq_false_iff_eq.mpr c4
  clear c4
  by_cases c5 : (l1.length : Int) > 9
  ·
   rw [if_pos c5] at H
   have c5b0 : decide (9 < (l1.length : Int)) = true := decide_eq_true c5
   have c5b1 : decide (9 < l1.length) = true := decide_eq_true (by omega)
   clear c5
   simp only [Option.some.injEq, Prod.mk.injEq] at H
   obtain ⟨rfl, rfl, rfl⟩ := H
   go_enter Tryd.func9, Tryd.ntmps9
   go_wp2_with (first | ((with_reducible refine gate_dst (N := 4) rfl ?_); refine box_event ?hg (N := 4) ?hd (cs := #[.int .i64 0, .string (⟨#[]⟩ : ByteArray), .slice none 0 0]) (t := 27) ?hr ?_; (case hd => rfl); (case hg => rfl); (case hr => exact zhlgcp); intro gb101 hg w6 hbox hb; have n0_ := aa (below_step zjjbob hb); have n1_ := aa (hbox); have n2_ := aa ((zkpfjp : w.heap.size ≤ gb101)); have n3_ := aa ((zkpfjp : w.heap.size ≤ gb101)); clear HB; have HB := n0_; have BK101 := n1_; have GW101 := n2_; have GE101 := n3_; clear n0_ n1_ n2_ n3_; clear hb hbox hg) | ((with_reducible refine gate_callee (f := 21) rfl ?_); refine goesL_ (some 7) rfl rfl Tryd.func21 (by kernel_rfl) rfl #[.slice A0 l0.length c0] rfl zjnmae ?_; (with_reducible refine (impl_TreeFault.calls k _ _ l0 t102 _ ?side1 ?side2 A3.out).mono ?_); (case side1 => exact zfmbgg); (case side2 => exact HC0.out); rintro e w7 ⟨rfl, hb⟩; refine ⟨_, rfl, ?_⟩; have n0_ := aa (blk_below (g := gb101) (o := .cells #[.int .i64 0, .string (⟨#[]⟩ : ByteArray), .slice none 0 0] 27 (0, 0)) (zkjhpm BK101.out) hb); have n1_ := aa (below_step zkmbdh hb); clear BK101; clear HB; have BK101 := n0_; have HB := n1_; clear n0_ n1_; (try clear hb); (try clear hb2); (try clear hk); (try clear hi); have hcz8_0 : w7.cell? ⟨gb101, 0, none⟩ = some (.int .i64 0) := (blk_cell BK101.out 0).trans rfl; have hcz8_1 : w7.cell? ⟨gb101, 1, none⟩ = some (.string (⟨#[]⟩ : ByteArray)) := (blk_cell BK101.out 1).trans rfl; have hcz8_2 : w7.cell? ⟨gb101, 2, none⟩ = some (.slice none 0 0) := (blk_cell BK101.out 2).trans rfl; have hfz8_0 := blk_frozen BK101.out 0; have hfz8_1 := blk_frozen BK101.out 1; have hfz8_2 := blk_frozen BK101.out 2))
   refine bodyPost_ret (results_cell_row rfl _ _ gb101 27 #[.int .i64 2, .string (⟨#[]⟩ : ByteArray), .slice none 0 0] (0, 0) _ rfl (by (with_reducible repeat (first | refine blk_drewN ?_ _ | refine blk_drew ?_ | refine blk_alloc ?_ _)); refine blk_put (cs := #[.int .i64 2, .string (⟨#[]⟩ : ByteArray), .slice none 0 0]) ?_ 2 _ rfl; (with_reducible repeat (first | refine blk_drewN ?_ _ | refine blk_drew ?_ | refine blk_alloc ?_ _)); refine blk_put (cs := #[.int .i64 2, .string (⟨#[]⟩ : ByteArray), .slice none 0 0]) ?_ 1 _ rfl; (with_reducible repeat (first | refine blk_drewN ?_ _ | refine blk_drew ?_ | refine blk_alloc ?_ _)); refine blk_put (cs := #[.int .i64 0, .string (⟨#[]⟩ : ByteArray), .slice none 0 0]) ?_ 0 _ rfl; (with_reducible repeat (first | refine blk_drewN ?_ _ | refine blk_drew ?_ | refine blk_alloc ?_ _)); exact BK101.out) Tryd.underlying27 rfl (by kernel_rfl)) rfl ?_
   exact ⟨_, by first | rfl | (simp [errW_none, errW_some] <;> rfl) | (simp [*, errW_none, errW_some] <;> rfl), by first | exact Kd.R_nil _ _ _ _ _ | exact Kd.N_nil _ _ _ _ _ | exact Kd.V_nil _ _ _ _ _ | exact Kd.Q_nil _ _ _ _ _ | exact Kd.S_nil _ _ _ _ _, by repeat (first | (with_reducible first | exact HB.out | apply below_alloc | apply pw_below_drewN | apply below_drew1 | refine below_set ?_ GE101.out) | exact HB.out)⟩
  ·
   rw [if_neg c5] at H
   have c5b0 : decide (9 < (l1.length : Int)) = false := decide_eq_false c5
   have c5b1 : decide (9 < l1.length) = false := decide_eq_false (by omega)
   clear c5
   replace H := Option.bind_eq_some_iff.mp H
   obtain ⟨t103, A90, H⟩ := H
   replace H : (some (0, (⟨#[]⟩ : ByteArray), t103)) = some (r1, r2, r3) := H
   have A9 := aa A90
   clear A90
   simp only [Option.some.injEq, Prod.mk.injEq] at H
   obtain ⟨rfl, rfl, rfl⟩ := H
   go_enter Tryd.func9, Tryd.ntmps9
   go_wp2_with (first | ((with_reducible refine gate_dst (N := 4) rfl ?_); refine box_event ?hg (N := 4) ?hd (cs := #[.int .i64 0, .string (⟨#[]⟩ : ByteArray), .slice none 0 0]) (t := 27) ?hr ?_; (case hd => rfl); (case hg => rfl); (case hr => exact zhlgcp); intro gb101 hg w10 hbox hb; have n0_ := aa (below_step zjjbob hb); have n1_ := aa (hbox); have n2_ := aa ((zkpfjp : w.heap.size ≤ gb101)); have n3_ := aa ((zkpfjp : w.heap.size ≤ gb101)); clear HB; have HB := n0_; have BK101 := n1_; have GW101 := n2_; have GE101 := n3_; clear n0_ n1_ n2_ n3_; clear hb hbox hg) | ((with_reducible refine gate_callee (f := 21) rfl ?_); refine goesL_ (some 7) rfl rfl Tryd.func21 (by kernel_rfl) rfl #[.slice A0 l0.length c0] rfl zjnmae ?_; (with_reducible refine (impl_TreeFault.calls k _ _ l0 t102 _ ?side1 ?side2 A3.out).mono ?_); (case side1 => exact zfmbgg); (case side2 => exact HC0.out); rintro e w11 ⟨rfl, hb⟩; refine ⟨_, rfl, ?_⟩; have n0_ := aa (blk_below (g := gb101) (o := .cells #[.int .i64 0, .string (⟨#[]⟩ : ByteArray), .slice none 0 0] 27 (0, 0)) (zkjhpm BK101.out) hb); have n1_ := aa (below_step zkmbdh hb); clear BK101; clear HB; have BK101 := n0_; have HB := n1_; clear n0_ n1_; (try clear hb); (try clear hb2); (try clear hk); (try clear hi)) | ((with_reducible refine gate_callee (f := 27) rfl ?_); refine goesL_ (some 20) rfl rfl Tryd.func27 (by kernel_rfl) rfl #[.slice A0 l0.length c0, .slice A1 l1.length c1] rfl zjnmae ?_; (with_reducible refine (impl_dropOwned.calls k _ _ l0 _ _ l1 t103 _ ?side1 ?side2 ?side3 ?side4 A9.out).mono ?_); (case side1 => exact zfmbgg); (case side2 => exact HC0.out); (case side3 => exact znmdka); (case side4 => exact HC1.out); rintro e w12 ⟨v104, rfl, ho0, hb⟩; refine ⟨_, rfl, ?_⟩; have n0_ := aa (Kd.R_lower ho0 (below_size zkmbdh)); have n1_ := aa (blk_below (g := gb101) (o := .cells #[.int .i64 0, .string (⟨#[]⟩ : ByteArray), .slice none 0 0] 27 (0, 0)) (zkjhpm BK101.out) hb); have n2_ := aa (below_step zkmbdh hb); clear BK101; clear HB; have HO105 := n0_; have BK101 := n1_; have HB := n2_; clear n0_ n1_ n2_; (try clear hb); (try clear hb2); (try clear hk); (try clear hi); (try clear ho0); obtain ⟨Ao13, co13, eo13⟩ := Kd.R_slice HO105.out; subst eo13; have hcz14_0 : w12.cell? ⟨gb101, 0, none⟩ = some (.int .i64 0) := (blk_cell BK101.out 0).trans rfl; have hcz14_1 : w12.cell? ⟨gb101, 1, none⟩ = some (.string (⟨#[]⟩ : ByteArray)) := (blk_cell BK101.out 1).trans rfl; have hcz14_2 : w12.cell? ⟨gb101, 2, none⟩ = some (.slice none 0 0) := (blk_cell BK101.out 2).trans rfl; have hfz14_0 := blk_frozen BK101.out 0; have hfz14_1 := blk_frozen BK101.out 1; have hfz14_2 := blk_frozen BK101.out 2))
   refine bodyPost_ret (results_cell_row rfl _ _ gb101 27 #[.int .i64 0, .string (⟨#[]⟩ : ByteArray), .slice Ao13 t103.length co13] (0, 0) _ rfl zkhiid Tryd.underlying27 rfl (by kernel_rfl)) rfl ?_
   exact ⟨_, by first | rfl | (simp [errW_none, errW_some] <;> rfl) | (simp [*, errW_none, errW_some] <;> rfl), by (with_reducible repeat (first | apply Kd.R_alloc | apply Kd.R_drewN | apply Kd.R_drew)); exact Kd.R_mono (Kd.R_far (p := ⟨gb101, 2, none⟩) (Kd.R_far (p := ⟨gb101, 1, none⟩) (Kd.R_far (p := ⟨gb101, 0, none⟩) (Kd.R_types HO105.out BK101.out (by decide)) (fun _ hk => hk.2) (.int .i64 0)) (fun _ hk => hk.2) (.string (⟨#[]⟩ : ByteArray))) (fun _ hk => hk.2) (.slice Ao13 t103.length co13)) (fun _ hk => trivial), by repeat (first | (with_reducible first | exact HB.out | apply below_alloc | apply pw_below_drewN | apply below_drew1 | refine below_set ?_ GE101.out) | exact HB.out)⟩
 ·
  rw [if_neg c4] at H
  have c4b0 : (t102 == 0) = false := beq_eq_false_iff_ne.mpr c4
  have c4b1 : (t102 != 0) = true := bne_iff_ne.mpr c4
  simp only [Option.some.injEq, Prod.mk.injEq] at H
  obtain ⟨rfl, rfl, rfl⟩ := H
  go_enter Tryd.func9, Tryd.ntmps9
  go_wp2_with (first | ((with_reducible refine gate_dst (N := 4) rfl ?_); refine box_event ?hg (N := 4) ?hd (cs := #[.int .i64 0, .string (⟨#[]⟩ : ByteArray), .slice none 0 0]) (t := 27) ?hr ?_; (case hd => rfl); (case hg => rfl); (case hr => exact zhlgcp); intro gb101 hg w15 hbox hb; have n0_ := aa (below_step zjjbob hb); have n1_ := aa (hbox); have n2_ := aa ((zkpfjp : w.heap.size ≤ gb101)); have n3_ := aa ((zkpfjp : w.heap.size ≤ gb101)); clear HB; have HB := n0_; have BK101 := n1_; have GW101 := n2_; have GE101 := n3_; clear n0_ n1_ n2_ n3_; clear hb hbox hg) | ((with_reducible refine gate_callee (f := 21) rfl ?_); refine goesL_ (some 7) rfl rfl Tryd.func21 (by kernel_rfl) rfl #[.slice A0 l0.length c0] rfl zjnmae ?_; (with_reducible refine (impl_TreeFault.calls k _ _ l0 t102 _ ?side1 ?side2 A3.out).mono ?_); (case side1 => exact zfmbgg); (case side2 => exact HC0.out); rintro e w16 ⟨rfl, hb⟩; refine ⟨_, rfl, ?_⟩; have n0_ := aa (blk_below (g := gb101) (o := .cells #[.int .i64 0, .string (⟨#[]⟩ : ByteArray), .slice none 0 0] 27 (0, 0)) (zkjhpm BK101.out) hb); have n1_ := aa (below_step zkmbdh hb); clear BK101; clear HB; have BK101 := n0_; have HB := n1_; clear n0_ n1_; (try clear hb); (try clear hb2); (try clear hk); (try clear hi); have hcz17_0 : w16.cell? ⟨gb101, 0, none⟩ = some (.int .i64 0) := (blk_cell BK101.out 0).trans rfl; have hcz17_1 : w16.cell? ⟨gb101, 1, none⟩ = some (.string (⟨#[]⟩ : ByteArray)) := (blk_cell BK101.out 1).trans rfl; have hcz17_2 : w16.cell? ⟨gb101, 2, none⟩ = some (.slice none 0 0) := (blk_cell BK101.out 2).trans rfl; have hfz17_0 := blk_frozen BK101.out 0; have hfz17_1 := blk_frozen BK101.out 1; have hfz17_2 := blk_frozen BK101.out 2))
  refine bodyPost_ret (results_cell_row rfl _ _ gb101 27 #[.int .i64 t102, .string (⟨#[]⟩ : ByteArray), .slice none 0 0] (0, 0) _ rfl zpdnbb Tryd.underlying27 rfl (by kernel_rfl)) rfl ?_
  exact ⟨_, by first | rfl | (simp [errW_none, errW_some] <;> rfl) | (simp [*, errW_none, errW_some] <;> rfl), by first | exact Kd.R_nil _ _ _ _ _ | exact Kd.N_nil _ _ _ _ _ | exact Kd.V_nil _ _ _ _ _ | exact Kd.Q_nil _ _ _ _ _ | exact Kd.S_nil _ _ _ _ _, by repeat (first | (with_reducible first | exact HB.out | apply below_alloc | apply pw_below_drewN | apply below_drew1 | refine below_set ?_ GE101.out) | exact HB.out)⟩

end Go.Proofs.YtajlnffefoeppaaDoor.Qa
