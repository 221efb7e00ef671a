/- A part of the proof that for every input the law FnExactDeleteZ returns true: no condition. Functions of the translation, each proved to do what a plain Lean function tells, and what these tell. -/
import Derived.Test.YthdddcegopgopaaDoorQax0
import Derived.Test.YthdddcegopgopaaDoorQax23
import Derived.Test.YthdddcegopgopaaDoorQax22
import Derived.Test.YthdddcegopgopaaDoorQax21
import Derived.Test.YthdddcegopgopaaDoorQax31
-- By gp.py (wip/gen of the work's repo), a program of this workplace over the kit's print: Lean checks it.
namespace Go.Proofs.YthdddcegopgopaaDoor.Qa
open Go.RowKit Go.Proofs.YthdddcegopgopaaDoorW.PrintWords Go.Proofs.YthdddcegopgopaaDoorW.PrintLast Go.Proofs.YthdddcegopgopaaDoorW.PrintMore
attribute [local go_sem] max2_int min2_int max_two min_two max_three min_three max_four min_four   -- for this text's walks alone
set_option linter.unusedVariables false
set_option linter.unusedSimpArgs false

/-! ### strings_Index: function 82 -/
def strings_Index.f (a0 : ByteArray) (a1 : ByteArray) : Option (Int) := if a1.size = 1 then (some (Lib.indexByte a0.data.toList (a1.data.toList.headD 0))) else (none)
theorem strings_Index.calls (a0 : ByteArray) (a1 : ByteArray) (r : Int) (w : World) (h : strings_Index.f a0 a1 = some r) :
  Calls Tryd.prog 82 #[.string a0, .string a1] w fun e w' => e = .returned (.int .i64 r) ∧ Drawn0 w w' := by
 unfold strings_Index.f at h
 by_cases c : a1.size = 1
 ·
  rw [if_pos c] at h
  obtain rfl := Option.some.inj h
  have e1 : a1 = ⟨#[a1.data.toList.headD 0]⟩ := one_byte a1 c
  generalize a1.data.toList.headD 0 = x at e1 ⊢
  subst e1
  refine (Tryd.strings_Index_one a0 x w).mono ?_
  rintro e w' ⟨rfl, rfl⟩
  exact ⟨rfl, Drawn0.refl _⟩
 ·
  rw [if_neg c] at h
  cases h

end Go.Proofs.YthdddcegopgopaaDoor.Qa

-- By gp.py (wip/gen of the work's repo), a program of this workplace over the kit's print: Lean checks it.
namespace Go.Proofs.YthdddcegopgopaaDoor.Qa
open Go.RowKit Go.Proofs.YthdddcegopgopaaDoorW.PrintWords Go.Proofs.YthdddcegopgopaaDoorW.PrintLast Go.Proofs.YthdddcegopgopaaDoorW.PrintMore
attribute [local go_sem] max2_int min2_int max_two min_two max_three min_three max_four min_four   -- for this text's walks alone
set_option linter.unusedVariables false
set_option linter.unusedSimpArgs false
set_option maxHeartbeats 8000000
set_option maxRecDepth 100000

/-! ### strings_genSplit: function 83 -/
mutual
def strings_genSplit.j0 : Nat → ByteArray → ByteArray → Int → Int → Option (List ByteArray)
 | 0, _, _, _, _ => none
 | k + 1, x0, x1, x2, x3 => if 0 ≤ (mn x3 (wrap64 ((x0.size : Int) + 1))) then (if (mn x3 (wrap64 ((x0.size : Int) + 1)) : Int).toNat ≤ 17592186044416 then (strings_genSplit.l0 k x0 x1 x2 (wrap64 ((mn x3 (wrap64 ((x0.size : Int) + 1))) - 1)) (List.replicate (mn x3 (wrap64 ((x0.size : Int) + 1)) : Int).toNat (⟨#[]⟩ : ByteArray)) 0) else (none)) else (none)
def strings_genSplit.l0 : Nat → ByteArray → ByteArray → Int → Int → List ByteArray → Int → Option (List ByteArray)
 | 0, _, _, _, _, _, _ => none
 | k + 1, x0, x1, x2, x3, x9, x10 => if x10 < x3 then ((strings_Index.f x0 x1).bind fun t105 => (if t105 < 0 then (if 0 ≤ x10 then (if x10 < (x9.length : Int) then (if 0 ≤ (wrap64 (x10 + 1)) then (if (wrap64 (x10 + 1)) ≤ (x9.length : Int) then (some ((x9.set (x10 : Int).toNat x0).take ((wrap64 (x10 + 1)) : Int).toNat)) else (none)) else (none)) else (none)) else (none)) else (if 0 ≤ (wrap64 (t105 + x2)) then (if (wrap64 (t105 + x2)) ≤ (x0.size : Int) then (if 0 ≤ x10 then (if x10 < (x9.length : Int) then (if 0 ≤ (wrap64 (t105 + (x1.size : Int))) then (if (wrap64 (t105 + (x1.size : Int))) ≤ (x0.size : Int) then (strings_genSplit.l0 k (x0.extract ((wrap64 (t105 + (x1.size : Int))) : Int).toNat x0.size) x1 x2 x3 (x9.set (x10 : Int).toNat (x0.extract 0 ((wrap64 (t105 + x2)) : Int).toNat)) (wrap64 (x10 + 1))) else (none)) else (none)) else (none)) else (none)) else (none)) else (none)))) else (if 0 ≤ x10 then (if x10 < (x9.length : Int) then (if 0 ≤ (wrap64 (x10 + 1)) then (if (wrap64 (x10 + 1)) ≤ (x9.length : Int) then (some ((x9.set (x10 : Int).toNat x0).take ((wrap64 (x10 + 1)) : Int).toNat)) else (none)) else (none)) else (none)) else (none))
end
def strings_genSplit.f (k : Nat) (a0 : ByteArray) (a1 : ByteArray) (a2 : Int) (a3 : Int) : Option (List ByteArray) := if a3 = 0 then (some ([] : List ByteArray)) else (if a1.toList = ([] : List UInt8) then (none) else (if a3 < 0 then ((strings_Count.f a0 a1).bind fun t101 => (strings_genSplit.j0 k a0 a1 a2 (wrap64 (t101 + 1)))) else (strings_genSplit.j0 k a0 a1 a2 a3)))
theorem strings_genSplit.mono_l : ∀ k, (∀ y0 y1 y2 y3, LeO (strings_genSplit.j0 k y0 y1 y2 y3) (strings_genSplit.j0 (k + 1) y0 y1 y2 y3)) ∧ (∀ y0 y1 y2 y3 y4 y5, LeO (strings_genSplit.l0 k y0 y1 y2 y3 y4 y5) (strings_genSplit.l0 (k + 1) y0 y1 y2 y3 y4 y5))
 | 0 => ⟨fun _ _ _ _ r h => by simp [strings_genSplit.j0] at h, fun _ _ _ _ _ _ r h => by simp [strings_genSplit.l0] at h⟩
 | k + 1 => by
  obtain ⟨ih0, ih1⟩ := strings_genSplit.mono_l k
  refine ⟨?_, ?_⟩
  ·
   intro y0 y1 y2 y3
   unfold strings_genSplit.j0
   repeat' first
   | (with_reducible exact ih0 _ _ _ _)
   | (with_reducible exact ih1 _ _ _ _ _ _)
   | (with_reducible exact LeO.refl _)
   | (with_reducible exact LeO.none _)
   | (with_reducible refine LeO.ite ?_ ?_)
   | (with_reducible refine LeO.bind ?_ (fun _ => ?_))
   | exact ih0 _ _ _ _
   | exact ih1 _ _ _ _ _ _
   | exact LeO.none _
   | refine LeO.ite ?_ ?_
   | refine LeO.bind ?_ (fun _ => ?_)
  ·
   intro y0 y1 y2 y3 y4 y5
   unfold strings_genSplit.l0
   repeat' first
   | (with_reducible exact ih0 _ _ _ _)
   | (with_reducible exact ih1 _ _ _ _ _ _)
   | (with_reducible exact LeO.refl _)
   | (with_reducible exact LeO.none _)
   | (with_reducible refine LeO.ite ?_ ?_)
   | (with_reducible refine LeO.bind ?_ (fun _ => ?_))
   | exact ih0 _ _ _ _
   | exact ih1 _ _ _ _ _ _
   | exact LeO.none _
   | refine LeO.ite ?_ ?_
   | refine LeO.bind ?_ (fun _ => ?_)
theorem strings_genSplit.mono : ∀ a0 a1 a2 a3 k, LeO (strings_genSplit.f k a0 a1 a2 a3) (strings_genSplit.f (k + 1) a0 a1 a2 a3) := by
 intro a0 a1 a2 a3 k
 obtain ⟨ih0, ih1⟩ := strings_genSplit.mono_l k
 unfold strings_genSplit.f
 repeat' first
   | (with_reducible exact ih0 _ _ _ _)
   | (with_reducible exact ih1 _ _ _ _ _ _)
   | (with_reducible exact LeO.refl _)
   | (with_reducible exact LeO.none _)
   | (with_reducible refine LeO.ite ?_ ?_)
   | (with_reducible refine LeO.bind ?_ (fun _ => ?_))
   | exact ih0 _ _ _ _
   | exact ih1 _ _ _ _ _ _
   | exact LeO.none _
   | refine LeO.ite ?_ ?_
   | refine LeO.bind ?_ (fun _ => ?_)
theorem strings_genSplit.calls (k : Nat) (a0 : ByteArray) (a1 : ByteArray) (a2 : Int) (a3 : Int) (r : List ByteArray) (w : World) (h : strings_genSplit.f k a0 a1 a2 a3 = some r) :
  Calls Tryd.prog 83 #[.string a0, .string a1, .int .i64 a2, .int .i64 a3] w fun e w' => ∃ v0_ : Value, e = .returned (v0_) ∧ Kd.R Kd.string 9 w' w.heap.size (fun _ => True) v0_ r ∧ Below w.heap.size w w' := by
 have HB := aa (Below.refl w.heap.size w)
 have H : (if a3 = 0 then (some ([] : List ByteArray)) else (if a1.toList = ([] : List UInt8) then (none) else (if a3 < 0 then ((strings_Count.f a0 a1).bind fun t101 => (strings_genSplit.j0 k a0 a1 a2 (wrap64 (t101 + 1)))) else (strings_genSplit.j0 k a0 a1 a2 a3)))) = some r := h
 clear h
 by_cases c5 : a3 = 0
 ·
  rw [if_pos c5] at H
  have c5b0 : (a3 == 0) = true := beq_iff_eq.mpr c5
  have c5b1 : (a3 != 0) = false := bne_eq_false_iff_eq.mpr c5
  clear c5
  obtain rfl := Option.some.inj H
  go_enter Tryd.func83, Tryd.ntmps83
  go_wp2
  go_ret
  exact ⟨_, by first | rfl | (simp [errW_none, errW_some] <;> rfl) | (simp [*, errW_none, errW_some] <;> rfl), by first | exact Kd.R_nil _ _ _ _ _ | exact Kd.N_nil _ _ _ _ _ | exact Kd.V_nil _ _ _ _ _ | exact Kd.Q_nil _ _ _ _ _ | exact Kd.S_nil _ _ _ _ _, by repeat (first | (with_reducible first | exact HB.out | apply below_alloc | apply pw_below_drewN | apply below_drew1) | exact HB.out)⟩
 ·
  rw [if_neg c5] at H
  have c5b0 : (a3 == 0) = false := beq_eq_false_iff_ne.mpr c5
  have c5b1 : (a3 != 0) = true := bne_iff_ne.mpr c5
  by_cases c6 : a1.toList = ([] : List UInt8)
  ·
   rw [if_pos c6] at H
   exact absurd H (by simp)
  ·
   rw [if_neg c6] at H
   have c6b0 : (a1.toList == ([] : List UInt8)) = false := beq_eq_false_iff_ne.mpr c6
   have c6b1 : (a1.toList != ([] : List UInt8)) = true := bne_iff_ne.mpr c6
   have HC7 := aa H
   clear H
   go_enter Tryd.func83, Tryd.ntmps83
   go_upto_if 20 with (fail)
   go_cut [3] (fun v3 wc => ∃ (kq : Nat) (x3_6 : Int), v3 = .int .i64 x3_6 ∧ Aside0 (strings_genSplit.j0 kq a0 a1 a2 x3_6 = some r) ∧ Aside0 (kq ≤ k) ∧ Aside0 (Below w.heap.size w wc))
   case first =>
    have H := HC7.out
    clear HC7
    by_cases c8 : a3 < 0
    ·
     rw [if_pos c8] at H
     have c8b0 : decide (a3 < 0) = true := decide_eq_true c8
     clear c8
     (first | rw [c8b0] | (simp only [i64_w, i32_w]; rw [c8b0]) | (simp only [c8b2, Bool.not_false, Bool.not_true]) | skip)
     replace H := Option.bind_eq_some_iff.mp H
     obtain ⟨t101, A90, H⟩ := H
     replace H : (strings_genSplit.j0 k a0 a1 a2 (wrap64 (t101 + 1))) = some r := H
     have A9 := aa A90
     clear A90
     have H' := aa H
     clear H
     go_wp2_with (first | ((with_reducible refine gate_callee (f := 65) rfl ?_); refine goesL_ (some 23) rfl rfl Tryd.func65 (by kernel_rfl) rfl #[.string a0, .string a1] rfl zjnmae ?_; (with_reducible refine (strings_Count.calls a0 a1 t101 _ A9.out).mono ?_); rintro e w' ⟨rfl, ⟨nd, rfl⟩⟩; refine ⟨_, rfl, ?_⟩))
     go_meet
     case rel => exact ⟨_, (wrap64 (t101 + 1)), zagbkp, H', ⟨by first | omega | exact Nat.le_refl _⟩, ⟨by repeat (first | (with_reducible first | exact HB.out | apply below_alloc | apply pw_below_drewN | apply below_drew1) | exact HB.out)⟩⟩
    ·
     rw [if_neg c8] at H
     have c8b0 : decide (a3 < 0) = false := decide_eq_false c8
     clear c8
     (first | rw [c8b0] | (simp only [i64_w, i32_w]; rw [c8b0]) | (simp only [c8b2, Bool.not_false, Bool.not_true]) | skip)
     have H' := aa H
     clear H
     go_wp2
     go_meet
     case rel => exact ⟨_, (a3), zagbkp, H', ⟨by first | omega | exact Nat.le_refl _⟩, ⟨by repeat (first | (with_reducible first | exact HB.out | apply below_alloc | apply pw_below_drewN | apply below_drew1) | exact HB.out)⟩⟩
   case rest =>
    clear HC7
    try clear p2
    try clear c5
    try clear c5b0
    try clear c5b1
    try clear c6
    try clear c6b0
    try clear c6b1
    try clear p6
    try clear c8
    try clear c8b0
    try clear c8b2
    obtain ⟨kq, x3_6, rfl, HA, HJ6, HB⟩ := hcut
    cases kq with
    | zero => exact absurd HA.out (by simp [strings_genSplit.j0])
    | succ kj6 =>
     have H := HA.out
     clear HA
     simp only [strings_genSplit.j0] at H
     obtain ⟨ji10, hji10⟩ : ∃ j_ : Int, (mn x3_6 (wrap64 ((a0.size : Int) + 1))) = j_ := ⟨_, rfl⟩
     replace H : (if 0 ≤ (ji10) then (if (ji10 : Int).toNat ≤ 17592186044416 then (strings_genSplit.l0 kj6 a0 a1 a2 (wrap64 ((ji10) - 1)) (List.replicate (ji10 : Int).toNat (⟨#[]⟩ : ByteArray)) 0) else (none)) else (none)) = some r := by first | (rw [hji10] at H; exact H) | (simp only [hji10] at H ⊢; exact H)
     have hji10_ : (if (wrap64 ((a0.size : Int) + 1)) < x3_6 then (wrap64 ((a0.size : Int) + 1)) else x3_6) = ji10 := hji10
     by_cases c11 : 0 ≤ (ji10)
     ·
      rw [if_pos c11] at H
      have c11b0 := eq_true c11
      have c11b1 : decide (0 ≤ (ji10)) = true := decide_eq_true c11
      clear c11
      by_cases c12 : (ji10 : Int).toNat ≤ 17592186044416
      ·
       rw [if_pos c12] at H
       have c12b0 := eq_true c12
       have c12b1 : decide ((ji10 : Int).toNat ≤ 17592186044416) = true := decide_eq_true c12
       clear c12
       obtain ⟨y102, hy102⟩ : ∃ y_ : List ByteArray, y_ = (List.replicate (ji10 : Int).toNat (⟨#[]⟩ : ByteArray)) := ⟨_, rfl⟩
       replace H : (strings_genSplit.l0 kj6 a0 a1 a2 (wrap64 ((ji10) - 1)) y102 0) = some r := by first | (rw [hy102]; with_reducible exact H) | (have H2_ := (Option.bind_some _ _).symm.trans H; rw [hy102]; with_reducible exact H2_) | (have H2_ := (Option.bind_some _ _).symm.trans H; with_reducible exact H2_) | with_reducible exact H | (rw [hy102]; exact H) | exact H
       have Ny102 := aa hy102
       clear hy102
       have H' := aa H
       clear H
       go_wp2_with (first | ((with_reducible refine gate_dst (N := 31) rfl ?_); refine Kd.R_make Kd.string _ 9 rfl (N := 31) rfl 52 _ _ rfl ji10 rfl rfl Tryd.underlying52 (.string ⟨#[]⟩) 16 info9 rfl (by decide) (by omega) (⟨#[]⟩ : ByteArray) (ok := fun _ => True) (okp := fun _ => True) rfl (fun _ hk => hk) trivial (of_decide_eq_true zgglam) (Nat.le_trans (Nat.mul_le_mul_right _ (of_decide_eq_true zgglam : ji10.toNat ≤ 17592186044416)) (by omega)) (Below.refl _ _) (Nat.le_refl _) ?_; intro v103 w13 ho14 hb hg_ hnew_; clear hg_ hnew_; (first | rw [← Ny102.out] at ho14 | (simp only [Int.reduceToNat] at ho14; rw [← Ny102.out] at ho14)); have n0_ := aa (Kd.R_lower ho14 (below_size zjjbob)); have n1_ := aa (below_step zjjbob hb); clear HB; have HO104 := n0_; have HB := n1_; clear n0_ n1_; clear hb ho14))
       go_loopg [0, 10] kj6 (fun kq v0 v10 w' => ∃ (x0_2 : ByteArray) (x9_2 : List ByteArray) (x10_2 : Int), v0 = .string x0_2 ∧ v10 = .int .i64 x10_2 ∧ Aside0 (strings_genSplit.l0 kq x0_2 a1 a2 (wrap64 ((ji10) - 1)) x9_2 x10_2 = some r) ∧ Aside0 (kq ≤ kj6) ∧ Aside0 (Kd.R Kd.string 9 w' w.heap.size (fun _ => True) v103 x9_2) ∧ Aside0 (Below w.heap.size w w'))
       case atStart => exact ⟨(a0), (y102), (0), zagbkp, zagbkp, H', ⟨Nat.le_refl _⟩, ⟨by (with_reducible repeat (first | apply Kd.R_alloc | apply Kd.R_drewN | apply Kd.R_drew)); exact HO104.out⟩, ⟨by repeat (first | (with_reducible first | exact HB.out | apply below_alloc | apply pw_below_drewN | apply below_drew1) | exact HB.out)⟩⟩
       case round =>
        clear H'
        try clear c1
        try clear p2
        try clear c5
        try clear c5b0
        try clear c5b1
        try clear c6
        try clear c6b0
        try clear c6b1
        try clear p6
        try clear c8
        try clear c8b0
        try clear c8b2
        try clear c11
        try clear c11b0
        try clear c11b1
        try clear c12
        try clear c12b0
        try clear c12b1
        try clear p2
        try clear p6
        obtain ⟨x0_2, x9_2, x10_2, rfl, rfl, HA, HK2, HO_9, HB⟩ := hrel
        cases gk with
        | zero => exact absurd HA.out (by simp [strings_genSplit.l0])
        | succ k2 =>
         have H := HA.out
         clear HA
         simp only [strings_genSplit.l0] at H
         by_cases c15 : x10_2 < (wrap64 ((ji10) - 1))
         ·
          rw [if_pos c15] at H
          have c15b0 : decide (x10_2 < (wrap64 ((ji10) - 1))) = true := decide_eq_true c15
          clear c15
          replace H := Option.bind_eq_some_iff.mp H
          obtain ⟨t105, A160, H⟩ := H
          replace H : (if t105 < 0 then (if 0 ≤ x10_2 then (if x10_2 < (x9_2.length : Int) then (if 0 ≤ (wrap64 (x10_2 + 1)) then (if (wrap64 (x10_2 + 1)) ≤ (x9_2.length : Int) then (some ((x9_2.set (x10_2 : Int).toNat x0_2).take ((wrap64 (x10_2 + 1)) : Int).toNat)) else (none)) else (none)) else (none)) else (none)) else (if 0 ≤ (wrap64 (t105 + a2)) then (if (wrap64 (t105 + a2)) ≤ (x0_2.size : Int) then (if 0 ≤ x10_2 then (if x10_2 < (x9_2.length : Int) then (if 0 ≤ (wrap64 (t105 + (a1.size : Int))) then (if (wrap64 (t105 + (a1.size : Int))) ≤ (x0_2.size : Int) then (strings_genSplit.l0 k2 (x0_2.extract ((wrap64 (t105 + (a1.size : Int))) : Int).toNat x0_2.size) a1 a2 (wrap64 ((ji10) - 1)) (x9_2.set (x10_2 : Int).toNat (x0_2.extract 0 ((wrap64 (t105 + a2)) : Int).toNat)) (wrap64 (x10_2 + 1))) else (none)) else (none)) else (none)) else (none)) else (none)) else (none))) = some r := H
          have A16 := aa A160
          clear A160
          by_cases c17 : t105 < 0
          ·
           rw [if_pos c17] at H
           have c17b0 : decide (t105 < 0) = true := decide_eq_true c17
           clear c17
           by_cases c18 : 0 ≤ x10_2
           ·
            rw [if_pos c18] at H
            have c18b0 : decide (0 ≤ x10_2) = true := decide_eq_true c18
            clear c18
            by_cases c19 : x10_2 < (x9_2.length : Int)
            ·
             rw [if_pos c19] at H
             have c19b0 : decide (x10_2 < (x9_2.length : Int)) = true := decide_eq_true c19
             clear c19
             obtain ⟨y106, hy106⟩ : ∃ y_ : List ByteArray, y_ = (x9_2.set (x10_2 : Int).toNat x0_2) := ⟨_, rfl⟩
             replace H : (if 0 ≤ (wrap64 (x10_2 + 1)) then (if (wrap64 (x10_2 + 1)) ≤ (x9_2.length : Int) then (some (y106.take ((wrap64 (x10_2 + 1)) : Int).toNat)) else (none)) else (none)) = some r := by first | (rw [hy106]; with_reducible exact H) | (have H2_ := (Option.bind_some _ _).symm.trans H; rw [hy106]; with_reducible exact H2_) | (have H2_ := (Option.bind_some _ _).symm.trans H; with_reducible exact H2_) | with_reducible exact H | (rw [hy106]; exact H) | exact H
             have Ny106 := aa hy106
             clear hy106
             obtain ⟨ji21, hji21⟩ : ∃ j_ : Int, (wrap64 (x10_2 + 1)) = j_ := ⟨_, rfl⟩
             replace H : (if 0 ≤ (ji21) then (if (ji21) ≤ (x9_2.length : Int) then (some (y106.take ((ji21) : Int).toNat)) else (none)) else (none)) = some r := by first | (rw [hji21] at H; exact H) | (simp only [hji21] at H ⊢; exact H)
             (try rw [hji21] at A16)
             have hji21w : (IntKind.i64.wrap (x10_2 + 1)) = ji21 := (i64_w _).trans hji21
             by_cases c22 : 0 ≤ (ji21)
             ·
              rw [if_pos c22] at H
              have c22b0 := eq_true c22
              have c22b1 : decide (0 ≤ (ji21)) = true := decide_eq_true c22
              clear c22
              by_cases c23 : (ji21) ≤ (x9_2.length : Int)
              ·
               rw [if_pos c23] at H
               have c23b0 := eq_true c23
               have c23b1 : decide ((ji21) ≤ (x9_2.length : Int)) = true := decide_eq_true c23
               clear c23
               obtain ⟨y107, hy107⟩ : ∃ y_ : List ByteArray, y_ = (y106.take ((ji21) : Int).toNat) := ⟨_, rfl⟩
               replace H : (some y107) = some r := by first | (rw [hy107]; with_reducible exact H) | (have H2_ := (Option.bind_some _ _).symm.trans H; rw [hy107]; with_reducible exact H2_) | (have H2_ := (Option.bind_some _ _).symm.trans H; with_reducible exact H2_) | with_reducible exact H | (rw [hy107]; exact H) | exact H
               have Ny107 := aa hy107
               clear hy107
               obtain rfl := Option.some.inj H
               go_wp2_with (first | ((with_reducible refine gate_callee (f := 82) rfl ?_); refine goesL_ (some 39) rfl rfl Tryd.func82 (by kernel_rfl) rfl #[.string x0_2, .string a1] rfl zjnmae ?_; (with_reducible refine (strings_Index.calls x0_2 a1 t105 _ A16.out).mono ?_); rintro e w' ⟨rfl, ⟨nd, rfl⟩⟩; refine ⟨_, rfl, ?_⟩; (try (rw [drewN_self wr]; generalize hq_ : World.drewN wr _ = wr; have n0_ : Aside0 (Kd.R Kd.string 9 wr w.heap.size (fun _ => True) v103 x9_2) := ⟨by rw [← hq_]; exact (zcaken HO_9.out)⟩; have n1_ : Aside0 (Below w.heap.size w wr) := ⟨by rw [← hq_]; exact zjjbob⟩; clear HO_9 HB hq_; have HO_9 := n0_; have HB := n1_; clear n0_ n1_)); have p20 : 0 ≤ (x10_2 : Int) := of_decide_eq_true zgglam; have q20 : (x10_2 : Int) < ((x9_2.length : Int) : Int) := of_decide_eq_true zgglam; obtain ⟨go20, co20, eo20, gb20, gl20, cl20, HG20⟩ := Kd.R_form HO_9.out (by omega); (first | cases eo20 | (injection eo20 with ea_ en_ ec_; (first | subst ea_ | (injection ea_ with ea_; subst ea_)); subst ec_; clear en_)); have GB20 := aa gb20; have GG20 := aa HG20; clear gb20 gl20 HG20; obtain ⟨hx20_0, hf20_0⟩ := Kd.R_celln (⟨#[]⟩ : ByteArray) HO_9.out (x10_2 : Int) p20 q20; replace p20 := eq_true p20; replace q20 := eq_true q20; obtain ⟨hy24_, hz24_⟩ := Kd.R_celln (⟨#[]⟩ : ByteArray) HO_9.out (x10_2 : Int) (of_decide_eq_true zgglam) (of_decide_eq_true zgglam); have HP24 := Kd.R_putg HO_9.out (x10_2 : Int) x0_2) | ((with_reducible refine gate_store (t := 9) (p := 61) rfl ?_); refine store_event (t := 9) (p := 61) (v := ?vo_w25) (w1 := (wr.setCell ⟨go20, (x10_2 : Int).toNat, none⟩ (.string x0_2))) ?hg ?ho ?hn ?hr ?_; (case ho => rfl); (case hg => rfl); (case hn => rfl); (case hr => exact zhlgcp); intro w25 hw; have hg : wr.grownBy w25 (some go20) := (by rw [hw]; exact HP24.2); have hp_ : Kd.R Kd.string 9 w25 w.heap.size (fun _ => True) (.slice (some ⟨go20, 0, none⟩) x9_2.length co20) y106 := (by rw [hw, Ny106.out]; exact HP24.1); clear HP24; have n0_ := aa (hp_); have n1_ := aa ((by rw [hw]; exact below_set (HB.out) GB20.out : Below w.heap.size w w25)); clear HO_9; clear HB; have HO_9 := n0_; have HB := n1_; clear n0_ n1_; clear hg hw hp_; have q26 : ((ji21) : Int) ≤ ((x9_2.length : Int) : Int) := of_decide_eq_true zgglam; obtain ⟨i026, hi026, _, hsz26, _⟩ := info_parts info9; have hcut26 := cut_to (P := Tryd.prog) 52 9 .i64 Tryd.underlying52 hi026 (some ⟨go20, 0, none⟩) x9_2.length co20 (ji21) (of_decide_eq_true zgglam) q26 (Kd.R_reads' HO_9.out).2.1; have hr26 := Kd.R_take (m := ((ji21) : Int).toNat) HO_9.out (by omega); have hy26 : y107.length = ((ji21) : Int).toNat := (by rw [Ny107.out, List.length_take]; omega); rw [← Ny107.out] at hr26; rw [← hy26] at hr26 hcut26; clear hy26 hi026 hsz26 HO_9; have HO109 := aa hr26; clear hr26; replace q26 := eq_true q26))
               ·
                go_ret
                have hq_ : Kd.R Kd.string 9 (wr.setCell ⟨go20, (x10_2 : Int).toNat, none⟩ (.string x0_2)) w.heap.size (fun _ => True) (.slice (some ⟨go20, 0, none⟩) x9_2.length co20) y106 := by rw [Ny106.out]; exact HP24.1
                have q_ : (ji21 : Int) ≤ (x9_2.length : Int) := of_decide_eq_true (by assumption)
                have hr_ := Kd.R_take (m := ((ji21) : Int).toNat) hq_ (by rw [Ny106.out, List.length_set]; omega)
                rw [← Ny107.out] at hr_
                exact ⟨_, rfl, hr_, below_set HB.out GB20.out⟩
               ·
                exfalso
                have q_ : (ji21 : Int) ≤ (x9_2.length : Int) := of_decide_eq_true (by assumption)
                have := (Kd.R_reads' HO_9.out).2.1
                omega
              ·
               rw [if_neg c23] at H
               exact absurd H (by simp)
             ·
              rw [if_neg c22] at H
              exact absurd H (by simp)
            ·
             rw [if_neg c19] at H
             exact absurd H (by simp)
           ·
            rw [if_neg c18] at H
            exact absurd H (by simp)
          ·
           rw [if_neg c17] at H
           have c17b0 : decide (t105 < 0) = false := decide_eq_false c17
           clear c17
           obtain ⟨ji27, hji27⟩ : ∃ j_ : Int, (wrap64 (t105 + a2)) = j_ := ⟨_, rfl⟩
           replace H : (if 0 ≤ (ji27) then (if (ji27) ≤ (x0_2.size : Int) then (if 0 ≤ x10_2 then (if x10_2 < (x9_2.length : Int) then (if 0 ≤ (wrap64 (t105 + (a1.size : Int))) then (if (wrap64 (t105 + (a1.size : Int))) ≤ (x0_2.size : Int) then (strings_genSplit.l0 k2 (x0_2.extract ((wrap64 (t105 + (a1.size : Int))) : Int).toNat x0_2.size) a1 a2 (wrap64 ((ji10) - 1)) (x9_2.set (x10_2 : Int).toNat (x0_2.extract 0 ((ji27) : Int).toNat)) (wrap64 (x10_2 + 1))) else (none)) else (none)) else (none)) else (none)) else (none)) else (none)) = some r := by first | (rw [hji27] at H; exact H) | (simp only [hji27] at H ⊢; exact H)
           (try rw [hji27] at A16)
           have hji27w : (IntKind.i64.wrap (t105 + a2)) = ji27 := (i64_w _).trans hji27
           by_cases c28 : 0 ≤ (ji27)
           ·
            rw [if_pos c28] at H
            have c28b0 := eq_true c28
            have c28b1 : decide (0 ≤ (ji27)) = true := decide_eq_true c28
            clear c28
            by_cases c29 : (ji27) ≤ (x0_2.size : Int)
            ·
             rw [if_pos c29] at H
             have c29b0 := eq_true c29
             have c29b1 : decide ((ji27) ≤ (x0_2.size : Int)) = true := decide_eq_true c29
             clear c29
             by_cases c30 : 0 ≤ x10_2
             ·
              rw [if_pos c30] at H
              have c30b0 : decide (0 ≤ x10_2) = true := decide_eq_true c30
              clear c30
              by_cases c31 : x10_2 < (x9_2.length : Int)
              ·
               rw [if_pos c31] at H
               have c31b0 : decide (x10_2 < (x9_2.length : Int)) = true := decide_eq_true c31
               clear c31
               obtain ⟨y110, hy110⟩ : ∃ y_ : List ByteArray, y_ = (x9_2.set (x10_2 : Int).toNat (x0_2.extract 0 ((ji27) : Int).toNat)) := ⟨_, rfl⟩
               replace H : (if 0 ≤ (wrap64 (t105 + (a1.size : Int))) then (if (wrap64 (t105 + (a1.size : Int))) ≤ (x0_2.size : Int) then (strings_genSplit.l0 k2 (x0_2.extract ((wrap64 (t105 + (a1.size : Int))) : Int).toNat x0_2.size) a1 a2 (wrap64 ((ji10) - 1)) y110 (wrap64 (x10_2 + 1))) else (none)) else (none)) = some r := by first | (rw [hy110]; with_reducible exact H) | (have H2_ := (Option.bind_some _ _).symm.trans H; rw [hy110]; with_reducible exact H2_) | (have H2_ := (Option.bind_some _ _).symm.trans H; with_reducible exact H2_) | with_reducible exact H | (rw [hy110]; exact H) | exact H
               have Ny110 := aa hy110
               clear hy110
               obtain ⟨ji33, hji33⟩ : ∃ j_ : Int, (wrap64 (t105 + (a1.size : Int))) = j_ := ⟨_, rfl⟩
               replace H : (if 0 ≤ (ji33) then (if (ji33) ≤ (x0_2.size : Int) then (strings_genSplit.l0 k2 (x0_2.extract ((ji33) : Int).toNat x0_2.size) a1 a2 (wrap64 ((ji10) - 1)) y110 (wrap64 (x10_2 + 1))) else (none)) else (none)) = some r := by first | (rw [hji33] at H; exact H) | (simp only [hji33] at H ⊢; exact H)
               (try rw [hji33] at A16)
               have hji33w : (IntKind.i64.wrap (t105 + (a1.size : Int))) = ji33 := (i64_w _).trans hji33
               by_cases c34 : 0 ≤ (ji33)
               ·
                rw [if_pos c34] at H
                have c34b0 := eq_true c34
                have c34b1 : decide (0 ≤ (ji33)) = true := decide_eq_true c34
                clear c34
                by_cases c35 : (ji33) ≤ (x0_2.size : Int)
                ·
                 rw [if_pos c35] at H
                 have c35b0 := eq_true c35
                 have c35b1 : decide ((ji33) ≤ (x0_2.size : Int)) = true := decide_eq_true c35
                 clear c35
                 have H' := aa H
                 clear H
                 go_wp2_with (first | ((with_reducible refine gate_callee (f := 82) rfl ?_); refine goesL_ (some 39) rfl rfl Tryd.func82 (by kernel_rfl) rfl #[.string x0_2, .string a1] rfl zjnmae ?_; (with_reducible refine (strings_Index.calls x0_2 a1 t105 _ A16.out).mono ?_); rintro e w' ⟨rfl, ⟨nd, rfl⟩⟩; refine ⟨_, rfl, ?_⟩; (try (rw [drewN_self wr]; generalize hq_ : World.drewN wr _ = wr; have n0_ : Aside0 (Kd.R Kd.string 9 wr w.heap.size (fun _ => True) v103 x9_2) := ⟨by rw [← hq_]; exact (zcaken HO_9.out)⟩; have n1_ : Aside0 (Below w.heap.size w wr) := ⟨by rw [← hq_]; exact zjjbob⟩; clear HO_9 HB hq_; have HO_9 := n0_; have HB := n1_; clear n0_ n1_)); have p32 : 0 ≤ (x10_2 : Int) := of_decide_eq_true zgglam; have q32 : (x10_2 : Int) < ((x9_2.length : Int) : Int) := of_decide_eq_true zgglam; obtain ⟨go32, co32, eo32, gb32, gl32, cl32, HG32⟩ := Kd.R_form HO_9.out (by omega); (first | cases eo32 | (injection eo32 with ea_ en_ ec_; (first | subst ea_ | (injection ea_ with ea_; subst ea_)); subst ec_; clear en_)); have GB32 := aa gb32; have GG32 := aa HG32; clear gb32 gl32 HG32; obtain ⟨hx32_0, hf32_0⟩ := Kd.R_celln (⟨#[]⟩ : ByteArray) HO_9.out (x10_2 : Int) p32 q32; replace p32 := eq_true p32; replace q32 := eq_true q32; obtain ⟨hy36_, hz36_⟩ := Kd.R_celln (⟨#[]⟩ : ByteArray) HO_9.out (x10_2 : Int) (of_decide_eq_true zgglam) (of_decide_eq_true zgglam); have HP36 := Kd.R_putg HO_9.out (x10_2 : Int) (x0_2.extract 0 ((ji27) : Int).toNat)) | ((with_reducible refine gate_store (t := 9) (p := 49) rfl ?_); refine store_event (t := 9) (p := 49) (v := ?vo_w37) (w1 := (wr.setCell ⟨go32, (x10_2 : Int).toNat, none⟩ (.string (x0_2.extract 0 ((ji27) : Int).toNat)))) ?hg ?ho ?hn ?hr ?_; (case ho => rfl); (case hg => rfl); (case hn => rfl); (case hr => exact zhlgcp); intro w37 hw; have hg : wr.grownBy w37 (some go32) := (by rw [hw]; exact HP36.2); have hp_ : Kd.R Kd.string 9 w37 w.heap.size (fun _ => True) (.slice (some ⟨go32, 0, none⟩) x9_2.length co32) y110 := (by rw [hw, Ny110.out]; exact HP36.1); clear HP36; have n0_ := aa (hp_); have n1_ := aa ((by rw [hw]; exact below_set (HB.out) GB32.out : Below w.heap.size w w37)); clear HO_9; clear HB; have HO_9 := n0_; have HB := n1_; clear n0_ n1_; clear hg hw hp_))
                 go_roundg k2
                 case measure => have := HJ6.out; have := HK2.out; omega
                 case rel => exact ⟨(x0_2.extract ((ji33) : Int).toNat x0_2.size), (y110), (wrap64 (x10_2 + 1)), (by first | rfl | (simp; done) | (simp only [← hji33] <;> (first | rfl | simp)) | (simp [*]; done)), zagbkp, H', ⟨by have := HJ6.out; have := HK2.out; omega⟩, ⟨by (with_reducible repeat (first | apply Kd.R_alloc | apply Kd.R_drewN | apply Kd.R_drew)); exact HO_9.out⟩, ⟨by repeat (first | (with_reducible first | exact HB.out | apply below_alloc | apply pw_below_drewN | apply below_drew1) | exact HB.out)⟩⟩
                ·
                 rw [if_neg c35] at H
                 exact absurd H (by simp)
               ·
                rw [if_neg c34] at H
                exact absurd H (by simp)
              ·
               rw [if_neg c31] at H
               exact absurd H (by simp)
             ·
              rw [if_neg c30] at H
              exact absurd H (by simp)
            ·
             rw [if_neg c29] at H
             exact absurd H (by simp)
           ·
            rw [if_neg c28] at H
            exact absurd H (by simp)
         ·
          rw [if_neg c15] at H
          have c15b0 : decide (x10_2 < (wrap64 ((ji10) - 1))) = false := decide_eq_false c15
          clear c15
          by_cases c38 : 0 ≤ x10_2
          ·
           rw [if_pos c38] at H
           have c38b0 : decide (0 ≤ x10_2) = true := decide_eq_true c38
           clear c38
           by_cases c39 : x10_2 < (x9_2.length : Int)
           ·
            rw [if_pos c39] at H
            have c39b0 : decide (x10_2 < (x9_2.length : Int)) = true := decide_eq_true c39
            clear c39
            obtain ⟨y111, hy111⟩ : ∃ y_ : List ByteArray, y_ = (x9_2.set (x10_2 : Int).toNat x0_2) := ⟨_, rfl⟩
            replace H : (if 0 ≤ (wrap64 (x10_2 + 1)) then (if (wrap64 (x10_2 + 1)) ≤ (x9_2.length : Int) then (some (y111.take ((wrap64 (x10_2 + 1)) : Int).toNat)) else (none)) else (none)) = some r := by first | (rw [hy111]; with_reducible exact H) | (have H2_ := (Option.bind_some _ _).symm.trans H; rw [hy111]; with_reducible exact H2_) | (have H2_ := (Option.bind_some _ _).symm.trans H; with_reducible exact H2_) | with_reducible exact H | (rw [hy111]; exact H) | exact H
            have Ny111 := aa hy111
            clear hy111
            obtain ⟨ji41, hji41⟩ : ∃ j_ : Int, (wrap64 (x10_2 + 1)) = j_ := ⟨_, rfl⟩
            replace H : (if 0 ≤ (ji41) then (if (ji41) ≤ (x9_2.length : Int) then (some (y111.take ((ji41) : Int).toNat)) else (none)) else (none)) = some r := by first | (rw [hji41] at H; exact H) | (simp only [hji41] at H ⊢; exact H)
            have hji41w : (IntKind.i64.wrap (x10_2 + 1)) = ji41 := (i64_w _).trans hji41
            by_cases c42 : 0 ≤ (ji41)
            ·
             rw [if_pos c42] at H
             have c42b0 := eq_true c42
             have c42b1 : decide (0 ≤ (ji41)) = true := decide_eq_true c42
             clear c42
             by_cases c43 : (ji41) ≤ (x9_2.length : Int)
             ·
              rw [if_pos c43] at H
              have c43b0 := eq_true c43
              have c43b1 : decide ((ji41) ≤ (x9_2.length : Int)) = true := decide_eq_true c43
              clear c43
              obtain ⟨y112, hy112⟩ : ∃ y_ : List ByteArray, y_ = (y111.take ((ji41) : Int).toNat) := ⟨_, rfl⟩
              replace H : (some y112) = some r := by first | (rw [hy112]; with_reducible exact H) | (have H2_ := (Option.bind_some _ _).symm.trans H; rw [hy112]; with_reducible exact H2_) | (have H2_ := (Option.bind_some _ _).symm.trans H; with_reducible exact H2_) | with_reducible exact H | (rw [hy112]; exact H) | exact H
              have Ny112 := aa hy112
              clear hy112
              obtain rfl := Option.some.inj H
              have p40 : 0 ≤ (x10_2 : Int) := of_decide_eq_true zgglam
              have q40 : (x10_2 : Int) < ((x9_2.length : Int) : Int) := of_decide_eq_true zgglam
              obtain ⟨go40, co40, eo40, gb40, gl40, cl40, HG40⟩ := Kd.R_form HO_9.out (by omega)
              (first | cases eo40 | (injection eo40 with ea_ en_ ec_; (first | subst ea_ | (injection ea_ with ea_; subst ea_)); subst ec_; clear en_))
              have GB40 := aa gb40
              have GG40 := aa HG40
              clear gb40 gl40 HG40
              obtain ⟨hx40_0, hf40_0⟩ := Kd.R_celln (⟨#[]⟩ : ByteArray) HO_9.out (x10_2 : Int) p40 q40
              replace p40 := eq_true p40
              replace q40 := eq_true q40
              have HP44 := Kd.R_putg HO_9.out (x10_2 : Int) x0_2
              go_wp2_with (first | ((with_reducible refine gate_store (t := 9) (p := 61) rfl ?_); refine store_event (t := 9) (p := 61) (v := ?vo_w45) (w1 := (wr.setCell ⟨go40, (x10_2 : Int).toNat, none⟩ (.string x0_2))) ?hg ?ho ?hn ?hr ?_; (case ho => rfl); (case hg => rfl); (case hn => rfl); (case hr => exact zhlgcp); intro w45 hw; have hg : wr.grownBy w45 (some go40) := (by rw [hw]; exact HP44.2); have hp_ : Kd.R Kd.string 9 w45 w.heap.size (fun _ => True) (.slice (some ⟨go40, 0, none⟩) x9_2.length co40) y111 := (by rw [hw, Ny111.out]; exact HP44.1); clear HP44; have n0_ := aa (hp_); have n1_ := aa ((by rw [hw]; exact below_set (HB.out) GB40.out : Below w.heap.size w w45)); clear HO_9; clear HB; have HO_9 := n0_; have HB := n1_; clear n0_ n1_; clear hg hw hp_; have q46 : ((ji41) : Int) ≤ ((x9_2.length : Int) : Int) := of_decide_eq_true zgglam; obtain ⟨i046, hi046, _, hsz46, _⟩ := info_parts info9; have hcut46 := cut_to (P := Tryd.prog) 52 9 .i64 Tryd.underlying52 hi046 (some ⟨go40, 0, none⟩) x9_2.length co40 (ji41) (of_decide_eq_true zgglam) q46 (Kd.R_reads' HO_9.out).2.1; have hr46 := Kd.R_take (m := ((ji41) : Int).toNat) HO_9.out (by omega); have hy46 : y112.length = ((ji41) : Int).toNat := (by rw [Ny112.out, List.length_take]; omega); rw [← Ny112.out] at hr46; rw [← hy46] at hr46 hcut46; clear hy46 hi046 hsz46 HO_9; have HO114 := aa hr46; clear hr46; replace q46 := eq_true q46))
              ·
               go_ret
               have hq_ : Kd.R Kd.string 9 (wr.setCell ⟨go40, (x10_2 : Int).toNat, none⟩ (.string x0_2)) w.heap.size (fun _ => True) (.slice (some ⟨go40, 0, none⟩) x9_2.length co40) y111 := by rw [Ny111.out]; exact HP44.1
               have q_ : (ji41 : Int) ≤ (x9_2.length : Int) := of_decide_eq_true (by assumption)
               have hr_ := Kd.R_take (m := ((ji41) : Int).toNat) hq_ (by rw [Ny111.out, List.length_set]; omega)
               rw [← Ny112.out] at hr_
               exact ⟨_, rfl, hr_, below_set HB.out GB40.out⟩
              ·
               exfalso
               have q_ : (ji41 : Int) ≤ (x9_2.length : Int) := of_decide_eq_true (by assumption)
               have := (Kd.R_reads' HO_9.out).2.1
               omega
             ·
              rw [if_neg c43] at H
              exact absurd H (by simp)
            ·
             rw [if_neg c42] at H
             exact absurd H (by simp)
           ·
            rw [if_neg c39] at H
            exact absurd H (by simp)
          ·
           rw [if_neg c38] at H
           exact absurd H (by simp)
      ·
       rw [if_neg c12] at H
       exact absurd H (by simp)
     ·
      rw [if_neg c11] at H
      exact absurd H (by simp)

end Go.Proofs.YthdddcegopgopaaDoor.Qa

-- By gp.py (wip/gen of the work's repo), a program of this workplace over the kit's print: Lean checks it.
namespace Go.Proofs.YthdddcegopgopaaDoor.Qa
open Go.RowKit Go.Proofs.YthdddcegopgopaaDoorW.PrintWords Go.Proofs.YthdddcegopgopaaDoorW.PrintLast Go.Proofs.YthdddcegopgopaaDoorW.PrintMore
attribute [local go_sem] max2_int min2_int max_two min_two max_three min_three max_four min_four   -- for this text's walks alone
set_option linter.unusedVariables false
set_option linter.unusedSimpArgs false
set_option maxHeartbeats 8000000
set_option maxRecDepth 100000

/-! ### strings_Split: function 66 -/
def strings_Split.f (k : Nat) (a0 : ByteArray) (a1 : ByteArray) : Option (List ByteArray) := (strings_genSplit.f k a0 a1 0 (-1)).bind fun t101 => (some t101)
theorem strings_Split.mono : ∀ a0 a1 k, LeO (strings_Split.f k a0 a1) (strings_Split.f (k + 1) a0 a1) := by
 intro a0 a1 k
 unfold strings_Split.f
 repeat' first
   | (with_reducible exact strings_genSplit.mono _ _ _ _ _)
   | (with_reducible exact LeO.refl _)
   | (with_reducible exact LeO.none _)
   | (with_reducible refine LeO.ite ?_ ?_)
   | (with_reducible refine LeO.bind ?_ (fun _ => ?_))
   | exact strings_genSplit.mono _ _ _ _ _
   | exact LeO.none _
   | refine LeO.ite ?_ ?_
   | refine LeO.bind ?_ (fun _ => ?_)
theorem strings_Split.calls (k : Nat) (a0 : ByteArray) (a1 : ByteArray) (r : List ByteArray) (w : World) (h : strings_Split.f k a0 a1 = some r) :
  Calls Tryd.prog 66 #[.string a0, .string a1] w fun e w' => ∃ v0_ : Value, e = .returned (v0_) ∧ Kd.R Kd.string 9 w' w.heap.size (fun _ => True) v0_ r ∧ Below w.heap.size w w' := by
 have HB := aa (Below.refl w.heap.size w)
 have H : ((strings_genSplit.f k a0 a1 0 (-1)).bind fun t101 => (some t101)) = some r := h
 clear h
 replace H := Option.bind_eq_some_iff.mp H
 obtain ⟨t101, A30, H⟩ := H
 replace H : (some t101) = some r := H
 have A3 := aa A30
 clear A30
 obtain rfl := Option.some.inj H
 go_enter Tryd.func66, Tryd.ntmps66
 go_wp2_with (first | ((with_reducible refine gate_callee (f := 83) rfl ?_); refine goesL_ (some 7) rfl rfl Tryd.func83 (by kernel_rfl) rfl #[.string a0, .string a1, .int .i64 0, .int .i64 (-1)] rfl zjnmae ?_; (with_reducible refine (strings_genSplit.calls k a0 a1 0 (-1) t101 _ A3.out).mono ?_); rintro e w4 ⟨v102, rfl, ho0, hb⟩; refine ⟨_, rfl, ?_⟩; have n0_ := aa (Kd.R_lower ho0 (below_size zjjbob)); have n1_ := aa (below_step zjjbob hb); clear HB; have HO103 := n0_; have HB := n1_; clear n0_ n1_; (try clear hb); (try clear hb2); (try clear hk); (try clear hi); (try clear ho0)))
 go_ret
 exact ⟨_, by first | rfl | (simp [errW_none, errW_some] <;> rfl) | (simp [*, errW_none, errW_some] <;> rfl), by (with_reducible repeat (first | apply Kd.R_alloc | apply Kd.R_drewN | apply Kd.R_drew)); exact HO103.out, by repeat (first | (with_reducible first | exact HB.out | apply below_alloc | apply pw_below_drewN | apply below_drew1) | exact HB.out)⟩

end Go.Proofs.YthdddcegopgopaaDoor.Qa

-- By gp.py (wip/gen of the work's repo), a program of this workplace over the kit's print: Lean checks it.
namespace Go.Proofs.YthdddcegopgopaaDoor.Qa
open Go.RowKit Go.Proofs.YthdddcegopgopaaDoorW.PrintWords Go.Proofs.YthdddcegopgopaaDoorW.PrintLast Go.Proofs.YthdddcegopgopaaDoorW.PrintMore
attribute [local go_sem] max2_int min2_int max_two min_two max_three min_three max_four min_four   -- for this text's walks alone
set_option linter.unusedVariables false
set_option linter.unusedSimpArgs false
set_option maxHeartbeats 8000000
set_option maxRecDepth 100000

/-! ### impl_PathFault: function 42 -/
mutual
def impl_PathFault.j0 : Nat → ByteArray → Bool → Option (Int)
 | 0, _, _ => none
 | k + 1, x0, x13 => if x13 = true then (some 2) else (if x0.toList = ([47] : List UInt8) then (some 0) else ((strings_Split.f k x0 (⟨#[47]⟩ : ByteArray)).bind fun t102 => (if (t102.length : Int) < 2 then (impl_PathFault.j1 k t102 true) else (if 0 < (t102.length : Int) then (impl_PathFault.j1 k t102 ((rdOf ByteArray.empty t102 0).toList != ([] : List UInt8))) else (none)))))
def impl_PathFault.j1 : Nat → List ByteArray → Bool → Option (Int)
 | 0, _, _ => none
 | k + 1, x3, x26 => if x26 = true then (some 5) else (if 1 ≤ (x3.length : Int) then ((some (x3.drop 1 : List ByteArray)).bind fun y106 => (impl_PathFault.l0 k y106 (y106.length : Int) 0)) else (none))
def impl_PathFault.l0 : Nat → List ByteArray → Int → Int → Option (Int)
 | 0, _, _, _ => none
 | k + 1, x28, x29, x30 => if x30 < x29 then (if 0 ≤ x30 then (if x30 < (x28.length : Int) then ((impl_isName.f k (rdOf ByteArray.empty x28 x30)).bind fun t111 => (if t111 = true then (impl_PathFault.l0 k x28 x29 (wrap64 (x30 + 1))) else (some 5))) else (none)) else (none)) else (some 0)
end
def impl_PathFault.f (k : Nat) (a0 : ByteArray) : Option (Int) := if (a0.size : Int) > 24 then (impl_PathFault.j0 k a0 true) else ((strings_Count.f a0 (⟨#[47]⟩ : ByteArray)).bind fun t101 => (impl_PathFault.j0 k a0 (decide (t101 > 4))))
theorem impl_PathFault.mono_l : ∀ k, (∀ y0 y1, LeO (impl_PathFault.j0 k y0 y1) (impl_PathFault.j0 (k + 1) y0 y1)) ∧ (∀ y0 y1, LeO (impl_PathFault.j1 k y0 y1) (impl_PathFault.j1 (k + 1) y0 y1)) ∧ (∀ y0 y1 y2, LeO (impl_PathFault.l0 k y0 y1 y2) (impl_PathFault.l0 (k + 1) y0 y1 y2))
 | 0 => ⟨fun _ _ r h => by simp [impl_PathFault.j0] at h, fun _ _ r h => by simp [impl_PathFault.j1] at h, fun _ _ _ r h => by simp [impl_PathFault.l0] at h⟩
 | k + 1 => by
  obtain ⟨ih0, ih1, ih2⟩ := impl_PathFault.mono_l k
  refine ⟨?_, ?_, ?_⟩
  ·
   intro y0 y1
   unfold impl_PathFault.j0
   repeat' first
   | (with_reducible exact ih0 _ _)
   | (with_reducible exact ih1 _ _)
   | (with_reducible exact ih2 _ _ _)
   | (with_reducible exact impl_isName.mono _ _)
   | (with_reducible exact strings_Split.mono _ _ _)
   | (with_reducible exact LeO.refl _)
   | (with_reducible exact LeO.none _)
   | (with_reducible refine LeO.ite ?_ ?_)
   | (with_reducible refine LeO.bind ?_ (fun _ => ?_))
   | exact ih0 _ _
   | exact ih1 _ _
   | exact ih2 _ _ _
   | exact impl_isName.mono _ _
   | exact strings_Split.mono _ _ _
   | exact LeO.none _
   | refine LeO.ite ?_ ?_
   | refine LeO.bind ?_ (fun _ => ?_)
  ·
   intro y0 y1
   unfold impl_PathFault.j1
   repeat' first
   | (with_reducible exact ih0 _ _)
   | (with_reducible exact ih1 _ _)
   | (with_reducible exact ih2 _ _ _)
   | (with_reducible exact impl_isName.mono _ _)
   | (with_reducible exact strings_Split.mono _ _ _)
   | (with_reducible exact LeO.refl _)
   | (with_reducible exact LeO.none _)
   | (with_reducible refine LeO.ite ?_ ?_)
   | (with_reducible refine LeO.bind ?_ (fun _ => ?_))
   | exact ih0 _ _
   | exact ih1 _ _
   | exact ih2 _ _ _
   | exact impl_isName.mono _ _
   | exact strings_Split.mono _ _ _
   | exact LeO.none _
   | refine LeO.ite ?_ ?_
   | refine LeO.bind ?_ (fun _ => ?_)
  ·
   intro y0 y1 y2
   unfold impl_PathFault.l0
   repeat' first
   | (with_reducible exact ih0 _ _)
   | (with_reducible exact ih1 _ _)
   | (with_reducible exact ih2 _ _ _)
   | (with_reducible exact impl_isName.mono _ _)
   | (with_reducible exact strings_Split.mono _ _ _)
   | (with_reducible exact LeO.refl _)
   | (with_reducible exact LeO.none _)
   | (with_reducible refine LeO.ite ?_ ?_)
   | (with_reducible refine LeO.bind ?_ (fun _ => ?_))
   | exact ih0 _ _
   | exact ih1 _ _
   | exact ih2 _ _ _
   | exact impl_isName.mono _ _
   | exact strings_Split.mono _ _ _
   | exact LeO.none _
   | refine LeO.ite ?_ ?_
   | refine LeO.bind ?_ (fun _ => ?_)
theorem impl_PathFault.mono : ∀ a0 k, LeO (impl_PathFault.f k a0) (impl_PathFault.f (k + 1) a0) := by
 intro a0 k
 obtain ⟨ih0, ih1, ih2⟩ := impl_PathFault.mono_l k
 unfold impl_PathFault.f
 repeat' first
   | (with_reducible exact ih0 _ _)
   | (with_reducible exact ih1 _ _)
   | (with_reducible exact ih2 _ _ _)
   | (with_reducible exact impl_isName.mono _ _)
   | (with_reducible exact strings_Split.mono _ _ _)
   | (with_reducible exact LeO.refl _)
   | (with_reducible exact LeO.none _)
   | (with_reducible refine LeO.ite ?_ ?_)
   | (with_reducible refine LeO.bind ?_ (fun _ => ?_))
   | exact ih0 _ _
   | exact ih1 _ _
   | exact ih2 _ _ _
   | exact impl_isName.mono _ _
   | exact strings_Split.mono _ _ _
   | exact LeO.none _
   | refine LeO.ite ?_ ?_
   | refine LeO.bind ?_ (fun _ => ?_)
theorem impl_PathFault.calls (k : Nat) (a0 : ByteArray) (r : Int) (w : World) (h : impl_PathFault.f k a0 = some r) :
  Calls Tryd.prog 42 #[.string a0] w fun e w' => e = .returned (.int .i64 r) ∧ Below w.heap.size w w' := by
 have HB := aa (Below.refl w.heap.size w)
 have H : (if (a0.size : Int) > 24 then (impl_PathFault.j0 k a0 true) else ((strings_Count.f a0 (⟨#[47]⟩ : ByteArray)).bind fun t101 => (impl_PathFault.j0 k a0 (decide (t101 > 4))))) = some r := h
 clear h
 have HC2 := aa H
 clear H
 go_enter Tryd.func42, Tryd.ntmps42
 go_upto_region 1 with (fail)
 go_cut [13] (fun v13 wc => ∃ (kq : Nat) (x13_1 : Bool), v13 = .bool x13_1 ∧ Aside0 (impl_PathFault.j0 kq a0 x13_1 = some r) ∧ Aside0 (kq ≤ k) ∧ Aside0 (Below w.heap.size w wc))
 case first =>
  have H := HC2.out
  clear HC2
  by_cases c3 : (a0.size : Int) > 24
  ·
   rw [if_pos c3] at H
   have c3b0 : decide (24 < (a0.size : Int)) = true := decide_eq_true c3
   have c3b1 : decide (24 < a0.size) = true := decide_eq_true (by omega)
   clear c3
   (first | rw [c3b0] | (simp only [i64_w, i32_w]; rw [c3b0]) | (simp only [c3b2, Bool.not_false, Bool.not_true]) | skip)
   have H' := aa H
   clear H
   go_wp2
   go_meet
   case rel => exact ⟨_, (true), zagbkp, H', ⟨by first | omega | exact Nat.le_refl _⟩, ⟨by repeat (first | (with_reducible first | exact HB.out | apply below_alloc | apply pw_below_drewN | apply below_drew1) | exact HB.out)⟩⟩
  ·
   rw [if_neg c3] at H
   have c3b0 : decide (24 < (a0.size : Int)) = false := decide_eq_false c3
   have c3b1 : decide (24 < a0.size) = false := decide_eq_false (by omega)
   clear c3
   (first | rw [c3b0] | (simp only [i64_w, i32_w]; rw [c3b0]) | (simp only [c3b2, Bool.not_false, Bool.not_true]) | skip)
   replace H := Option.bind_eq_some_iff.mp H
   obtain ⟨t101, A40, H⟩ := H
   replace H : (impl_PathFault.j0 k a0 (decide (t101 > 4))) = some r := H
   have A4 := aa A40
   clear A40
   have H' := aa H
   clear H
   go_wp2_with (first | (go_at_call 65; (with_reducible refine (strings_Count.calls a0 (⟨#[47]⟩ : ByteArray) t101 _ A4.out).mono ?_); rintro e w' ⟨rfl, ⟨nd, rfl⟩⟩))
   go_meet
   case rel => exact ⟨_, (decide (t101 > 4)), zagbkp, H', ⟨by first | omega | exact Nat.le_refl _⟩, ⟨by repeat (first | (with_reducible first | exact HB.out | apply below_alloc | apply pw_below_drewN | apply below_drew1) | exact HB.out)⟩⟩
 case rest =>
  clear HC2
  try clear p2
  try clear c3
  try clear c3b0
  try clear c3b1
  try clear c3b2
  try clear c4
  obtain ⟨kq, x13_1, rfl, HA, HJ1, HB⟩ := hcut
  cases kq with
  | zero => exact absurd HA.out (by simp [impl_PathFault.j0])
  | succ kj1 =>
   have H := HA.out
   clear HA
   simp only [impl_PathFault.j0] at H
   by_cases c5 : x13_1 = true
   ·
    subst c5
    have H1 : (some 2) = some r := by rw [if_pos rfl] at H; exact H
    clear H
    have H := H1
    clear H1
    obtain rfl := Option.some.inj H
    go_wp2
    go_ret
    exact ⟨by first | rfl | (simp [errW_none, errW_some] <;> rfl) | (simp [*, errW_none, errW_some] <;> rfl), by repeat (first | (with_reducible first | exact HB.out | apply below_alloc | apply pw_below_drewN | apply below_drew1) | exact HB.out)⟩
   ·
    replace c5 := Bool.eq_false_iff.mpr c5
    subst c5
    have H1 : (if a0.toList = ([47] : List UInt8) then (some 0) else ((strings_Split.f kj1 a0 (⟨#[47]⟩ : ByteArray)).bind fun t102 => (if (t102.length : Int) < 2 then (impl_PathFault.j1 kj1 t102 true) else (if 0 < (t102.length : Int) then (impl_PathFault.j1 kj1 t102 ((rdOf ByteArray.empty t102 0).toList != ([] : List UInt8))) else (none))))) = some r := by rw [if_neg (show ¬ (false = true) by decide)] at H; exact H
    clear H
    have H := H1
    clear H1
    by_cases c6 : a0.toList = ([47] : List UInt8)
    ·
     rw [if_pos c6] at H
     have c6b0 : (a0.toList == ([47] : List UInt8)) = true := beq_iff_eq.mpr c6
     have c6b1 : (a0.toList != ([47] : List UInt8)) = false := bne_eq_false_iff_eq.mpr c6
     clear c6
     obtain rfl := Option.some.inj H
     go_wp2
     go_ret
     exact ⟨by first | rfl | (simp [errW_none, errW_some] <;> rfl) | (simp [*, errW_none, errW_some] <;> rfl), by repeat (first | (with_reducible first | exact HB.out | apply below_alloc | apply pw_below_drewN | apply below_drew1) | exact HB.out)⟩
    ·
     rw [if_neg c6] at H
     have c6b0 : (a0.toList == ([47] : List UInt8)) = false := beq_eq_false_iff_ne.mpr c6
     have c6b1 : (a0.toList != ([47] : List UInt8)) = true := bne_iff_ne.mpr c6
     replace H := Option.bind_eq_some_iff.mp H
     obtain ⟨t102, A70, H⟩ := H
     replace H : (if (t102.length : Int) < 2 then (impl_PathFault.j1 kj1 t102 true) else (if 0 < (t102.length : Int) then (impl_PathFault.j1 kj1 t102 ((rdOf ByteArray.empty t102 0).toList != ([] : List UInt8))) else (none))) = some r := H
     have A7 := aa A70
     clear A70
     have HC8 := aa H
     clear H
     go_upto_region 6 with (first | ((with_reducible refine gate_callee (f := 66) rfl ?_); refine goesL_ (some 17) rfl rfl Tryd.func66 (by kernel_rfl) rfl #[.string a0, .string (⟨#[47]⟩ : ByteArray)] rfl zjnmae ?_; (with_reducible refine (strings_Split.calls kj1 a0 (⟨#[47]⟩ : ByteArray) t102 _ A7.out).mono ?_); rintro e w9 ⟨v103, rfl, ho0, hb⟩; refine ⟨_, rfl, ?_⟩; have n0_ := aa (Kd.R_lower ho0 (below_size zjjbob)); have n1_ := aa (below_step zjjbob hb); clear HB; have HO104 := n0_; have HB := n1_; clear n0_ n1_; (try clear hb); (try clear hb2); (try clear hk); (try clear hi); (try clear ho0)))
     (try simp only [Act.put, List.setIfInBounds_toArray, List.set_cons_zero, List.set_cons_succ])
     go_cut [26] (fun v26 wc => ∃ (kq : Nat) (x26_7 : Bool), v26 = .bool x26_7 ∧ Aside0 (impl_PathFault.j1 kq t102 x26_7 = some r) ∧ Aside0 (kq ≤ kj1) ∧ Aside0 (Kd.R Kd.string 9 wc w.heap.size (fun _ => True) v103 t102) ∧ Aside0 (Below w.heap.size w wc))
     case first =>
      have H := HC8.out
      clear HC8
      by_cases c10 : (t102.length : Int) < 2
      ·
       rw [if_pos c10] at H
       have c10b0 : decide ((t102.length : Int) < 2) = true := decide_eq_true c10
       have c10b1 : decide (t102.length < 2) = true := decide_eq_true (by omega)
       clear c10
       (first | rw [c10b0] | (simp only [i64_w, i32_w]; rw [c10b0]) | (simp only [c10b2, Bool.not_false, Bool.not_true]) | skip)
       have H' := aa H
       clear H
       obtain ⟨Ao11, co11, eo11⟩ := Kd.R_slice HO104.out
       subst eo11
       go_wp2
       go_meet
       case rel => exact ⟨_, (true), zagbkp, H', ⟨by have := HJ1.out; first | omega | exact Nat.le_refl _⟩, ⟨by (with_reducible repeat (first | apply Kd.R_alloc | apply Kd.R_drewN | apply Kd.R_drew)); exact HO104.out⟩, ⟨by repeat (first | (with_reducible first | exact HB.out | apply below_alloc | apply pw_below_drewN | apply below_drew1) | exact HB.out)⟩⟩
      ·
       rw [if_neg c10] at H
       have c10b0 : decide ((t102.length : Int) < 2) = false := decide_eq_false c10
       have c10b1 : decide (t102.length < 2) = false := decide_eq_false (by omega)
       clear c10
       (first | rw [c10b0] | (simp only [i64_w, i32_w]; rw [c10b0]) | (simp only [c10b2, Bool.not_false, Bool.not_true]) | skip)
       by_cases c12 : 0 < (t102.length : Int)
       ·
        rw [if_pos c12] at H
        have c12b0 : decide (0 < (t102.length : Int)) = true := decide_eq_true c12
        have c12b1 : decide (0 < t102.length) = true := decide_eq_true (by omega)
        clear c12
        have H' := aa H
        clear H
        obtain ⟨Ao13, co13, eo13⟩ := Kd.R_slice HO104.out
        subst eo13
        have p105 : 0 ≤ (0 : Int) := (by omega)
        have q105 : 0 < (t102.length : Int) := of_decide_eq_true zgglam
        obtain ⟨ad105, e105, hx105_0⟩ := Kd.at_string (Kd.R_reads' HO104.out).2.2 0 p105 q105
        cases e105
        have qi105 : (0 < t102.length) = True := eq_true (by omega)
        (try rw [show ((0 : Int)).toNat = 0 from rfl] at hx105_0)
        (try rw [Addr.add_zero'] at hx105_0)
        replace p105 := eq_true p105
        replace q105 := eq_true q105
        go_wp2
        go_meet
        case rel => exact ⟨_, (((rdOf ByteArray.empty t102 0).toList != ([] : List UInt8))), zheoaa, H', ⟨by have := HJ1.out; first | omega | exact Nat.le_refl _⟩, ⟨by (with_reducible repeat (first | apply Kd.R_alloc | apply Kd.R_drewN | apply Kd.R_drew)); exact HO104.out⟩, ⟨by repeat (first | (with_reducible first | exact HB.out | apply below_alloc | apply pw_below_drewN | apply below_drew1) | exact HB.out)⟩⟩
       ·
        rw [if_neg c12] at H
        exact absurd H (by simp)
     case rest =>
      clear HC8
      try clear c1
      try clear p1
      try clear q1
      try clear hx1
      try clear qi1
      try clear p2
      try clear c3
      try clear c3b0
      try clear c3b1
      try clear c3b2
      try clear c4
      try clear c5
      try clear c6
      try clear c6b0
      try clear c6b1
      try clear c10
      try clear c10b0
      try clear c10b1
      try clear c10b2
      try clear p10
      try clear q10
      try clear hx10
      try clear qi10
      try clear c12
      try clear c12b0
      try clear c12b1
      try clear hx105_0
      try clear p105
      try clear p2
      try clear q105
      obtain ⟨kq, x26_7, rfl, HA, HJ7, HO_3, HB⟩ := hcut
      cases kq with
      | zero => exact absurd HA.out (by simp [impl_PathFault.j1])
      | succ kj7 =>
       have H := HA.out
       clear HA
       simp only [impl_PathFault.j1] at H
       by_cases c14 : x26_7 = true
       ·
        subst c14
        have H1 : (some 5) = some r := by rw [if_pos rfl] at H; exact H
        clear H
        have H := H1
        clear H1
        obtain rfl := Option.some.inj H
        go_wp2
        go_ret
        exact ⟨by first | rfl | (simp [errW_none, errW_some] <;> rfl) | (simp [*, errW_none, errW_some] <;> rfl), by repeat (first | (with_reducible first | exact HB.out | apply below_alloc | apply pw_below_drewN | apply below_drew1) | exact HB.out)⟩
       ·
        replace c14 := Bool.eq_false_iff.mpr c14
        subst c14
        have H1 : (if 1 ≤ (t102.length : Int) then ((some (t102.drop 1 : List ByteArray)).bind fun y106 => (impl_PathFault.l0 kj7 y106 (y106.length : Int) 0)) else (none)) = some r := by rw [if_neg (show ¬ (false = true) by decide)] at H; exact H
        clear H
        have H := H1
        clear H1
        by_cases c15 : 1 ≤ (t102.length : Int)
        ·
         rw [if_pos c15] at H
         have c15b0 := eq_true c15
         have c15b1 : decide (1 ≤ (t102.length : Int)) = true := decide_eq_true c15
         clear c15
         obtain ⟨y106, hy106⟩ : ∃ y_ : List ByteArray, y_ = (t102.drop 1) := ⟨_, rfl⟩
         replace H : (impl_PathFault.l0 kj7 y106 (y106.length : Int) 0) = some r := by first | (rw [hy106]; with_reducible exact H) | (have H2_ := (Option.bind_some _ _).symm.trans H; rw [hy106]; with_reducible exact H2_) | (have H2_ := (Option.bind_some _ _).symm.trans H; with_reducible exact H2_) | with_reducible exact H | (rw [hy106]; exact H) | exact H
         have Ny106 := aa hy106
         clear hy106
         have H' := aa H
         clear H
         obtain ⟨Ao17, co17, eo17⟩ := Kd.R_slice HO_3.out
         subst eo17
         have q16 : (1 : Int) ≤ ((t102.length : Int) : Int) := of_decide_eq_true zgglam
         obtain ⟨i016, hi016, _, hsz16, _⟩ := info_parts info9
         have hroom16 : t102.length ≤ co17 := (Kd.R_reads' HO_3.out).2.1
         have hC16 : Kd.C Kd.string _ Ao17 t102.length t102 := (Kd.R_reads' HO_3.out).2.2
         have hcut16 := cut_from (P := Tryd.prog) 52 9 .i64 Tryd.underlying52 hi016 1 hsz16 Ao17 t102.length co17 1 (by omega) q16
         have hr16 := Kd.C_drop (m := (1 : Int).toNat) (c := co17) hC16 (by omega) hroom16
         obtain ⟨A16, hA16⟩ : ∃ A1, A1 = (if co17 = (1 : Int).toNat then Ao17 else (Ao17 : Option Addr).map (·.add ((1 : Int).toNat * 1))) := ⟨_, rfl⟩
         obtain ⟨c16, hc16⟩ : ∃ c1, c1 = co17 - (1 : Int).toNat := ⟨_, rfl⟩
         have hy16 : y106.length = t102.length - (1 : Int).toNat := (by rw [Ny106.out, List.length_drop] <;> omega)
         rw [show (t102).drop (1 : Int).toNat = y106 from Ny106.out.symm] at hr16
         replace hr16 : Kd.C Kd.string _ A16 y106.length y106 := (by rw [hA16]; exact hr16)
         rw [← hy16, ← hA16, ← hc16] at hcut16
         have HR109 := aa hr16
         have HC109 := aa (show y106.length ≤ c16 from by rw [hy16, hc16]; exact Nat.sub_le_sub_right hroom16 _)
         clear hr16 hC16 hroom16 hi016 hsz16 hc16
         have KY16 := aa hy16
         have KA16 := aa hA16
         clear hy16 hA16
         have KL16 := aa (show 1 ≤ t102.length from by omega)
         replace q16 := eq_true q16
         go_wp2
         go_loopg [30] kj7 (fun kq v30 w' => ∃ (x30_3 : Int), v30 = .int .i64 x30_3 ∧ Aside0 (impl_PathFault.l0 kq y106 (y106.length : Int) x30_3 = some r) ∧ Aside0 (kq ≤ kj7) ∧ Aside0 (Kd.C Kd.string w' A16 y106.length y106) ∧ Aside0 (Below w.heap.size w w'))
         case atStart => exact ⟨(0), zagbkp, H', ⟨Nat.le_refl _⟩, ⟨by repeat (first | (with_reducible exact HR109.out) | (with_reducible refine Kd.C_alloc ?_ _) | (with_reducible refine Kd.C_drewN ?_ _) | (with_reducible refine Kd.C_drew ?_) | exact HR109.out)⟩, ⟨by repeat (first | (with_reducible first | exact HB.out | apply below_alloc | apply pw_below_drewN | apply below_drew1) | exact HB.out)⟩⟩
         case round =>
          clear H'
          try clear c1
          try clear p1
          try clear q1
          try clear hx1
          try clear qi1
          try clear p2
          try clear c3
          try clear c3b0
          try clear c3b1
          try clear c3b2
          try clear c4
          try clear c5
          try clear c6
          try clear c6b0
          try clear c6b1
          try clear c10
          try clear c10b0
          try clear c10b1
          try clear c10b2
          try clear p10
          try clear q10
          try clear hx10
          try clear qi10
          try clear c12
          try clear c12b0
          try clear c12b1
          try clear c14
          try clear c15
          try clear c15b0
          try clear c15b1
          try clear c16
          try clear q16
          try clear hx105_0
          try clear p1
          try clear p10
          try clear p105
          try clear p2
          try clear q1
          try clear q10
          try clear q105
          try clear q16
          obtain ⟨x30_3, rfl, HA, HK3, HR109, HB⟩ := hrel
          cases gk with
          | zero => exact absurd HA.out (by simp [impl_PathFault.l0])
          | succ k3 =>
           have H := HA.out
           clear HA
           simp only [impl_PathFault.l0] at H
           by_cases c18 : x30_3 < (y106.length : Int)
           ·
            rw [if_pos c18] at H
            have c18b0 : decide (x30_3 < (y106.length : Int)) = true := decide_eq_true c18
            clear c18
            by_cases c19 : 0 ≤ x30_3
            ·
             rw [if_pos c19] at H
             have c19b0 : decide (0 ≤ x30_3) = true := decide_eq_true c19
             clear c19
             by_cases c20 : x30_3 < (y106.length : Int)
             ·
              rw [if_pos c20] at H
              have c20b0 : decide (x30_3 < (y106.length : Int)) = true := decide_eq_true c20
              clear c20
              replace H := Option.bind_eq_some_iff.mp H
              obtain ⟨t111, A210, H⟩ := H
              replace H : (if t111 = true then (impl_PathFault.l0 k3 y106 (y106.length : Int) (wrap64 (x30_3 + 1))) else (some 5)) = some r := H
              have A21 := aa A210
              clear A210
              by_cases c22 : t111 = true
              ·
               subst c22
               have H1 : (impl_PathFault.l0 k3 y106 (y106.length : Int) (wrap64 (x30_3 + 1))) = some r := by rw [if_pos rfl] at H; exact H
               clear H
               have H := H1
               clear H1
               have H' := aa H
               clear H
               have p110 : 0 ≤ (x30_3 : Int) := of_decide_eq_true zgglam
               have q110 : x30_3 < (y106.length : Int) := of_decide_eq_true zgglam
               obtain ⟨ad110, e110, hx110_0⟩ := Kd.at_string HR109.out x30_3 p110 q110
               cases e110
               replace p110 := eq_true p110
               replace q110 := eq_true q110
               go_wp2_with (first | ((with_reducible refine gate_callee (f := 64) rfl ?_); refine goesL_ (some 35) rfl rfl Tryd.func64 (by kernel_rfl) rfl #[.string (rdOf ByteArray.empty y106 x30_3)] rfl zjnmae ?_; (with_reducible refine (impl_isName.calls k3 (rdOf ByteArray.empty y106 x30_3) true _ A21.out).mono ?_); rintro e w' ⟨rfl, ⟨nd, rfl⟩⟩; refine ⟨_, rfl, ?_⟩))
               go_roundg k3
               case measure => have := HJ1.out; have := HJ7.out; have := HK3.out; omega
               case rel => exact ⟨(wrap64 (x30_3 + 1)), zagbkp, H', ⟨by have := HJ1.out; have := HJ7.out; have := HK3.out; omega⟩, ⟨by repeat (first | (with_reducible exact HR109.out) | (with_reducible refine Kd.C_alloc ?_ _) | (with_reducible refine Kd.C_drewN ?_ _) | (with_reducible refine Kd.C_drew ?_) | exact HR109.out)⟩, ⟨by repeat (first | (with_reducible first | exact HB.out | apply below_alloc | apply pw_below_drewN | apply below_drew1) | exact HB.out)⟩⟩
              ·
               replace c22 := Bool.eq_false_iff.mpr c22
               subst c22
               have H1 : (some 5) = some r := by rw [if_neg (show ¬ (false = true) by decide)] at H; exact H
               clear H
               have H := H1
               clear H1
               obtain rfl := Option.some.inj H
               have p110 : 0 ≤ (x30_3 : Int) := of_decide_eq_true zgglam
               have q110 : x30_3 < (y106.length : Int) := of_decide_eq_true zgglam
               obtain ⟨ad110, e110, hx110_0⟩ := Kd.at_string HR109.out x30_3 p110 q110
               cases e110
               replace p110 := eq_true p110
               replace q110 := eq_true q110
               go_wp2_with (first | ((with_reducible refine gate_callee (f := 64) rfl ?_); refine goesL_ (some 35) rfl rfl Tryd.func64 (by kernel_rfl) rfl #[.string (rdOf ByteArray.empty y106 x30_3)] rfl zjnmae ?_; (with_reducible refine (impl_isName.calls k3 (rdOf ByteArray.empty y106 x30_3) false _ A21.out).mono ?_); rintro e w' ⟨rfl, ⟨nd, rfl⟩⟩; refine ⟨_, rfl, ?_⟩))
               go_ret
               exact ⟨by first | rfl | (simp [errW_none, errW_some] <;> rfl) | (simp [*, errW_none, errW_some] <;> rfl), by repeat (first | (with_reducible first | exact HB.out | apply below_alloc | apply pw_below_drewN | apply below_drew1) | exact HB.out)⟩
             ·
              rw [if_neg c20] at H
              exact absurd H (by simp)
            ·
             rw [if_neg c19] at H
             exact absurd H (by simp)
           ·
            rw [if_neg c18] at H
            have c18b0 : decide (x30_3 < (y106.length : Int)) = false := decide_eq_false c18
            clear c18
            obtain rfl := Option.some.inj H
            go_wp2
            go_ret
            exact ⟨by first | rfl | (simp [errW_none, errW_some] <;> rfl) | (simp [*, errW_none, errW_some] <;> rfl), by repeat (first | (with_reducible first | exact HB.out | apply below_alloc | apply pw_below_drewN | apply below_drew1) | exact HB.out)⟩
        ·
         rw [if_neg c15] at H
         exact absurd H (by simp)

end Go.Proofs.YthdddcegopgopaaDoor.Qa

-- By gp.py (wip/gen of the work's repo), a program of this workplace over the kit's print: Lean checks it.
namespace Go.Proofs.YthdddcegopgopaaDoor.Qa
open Go.RowKit Go.Proofs.YthdddcegopgopaaDoorW.PrintWords Go.Proofs.YthdddcegopgopaaDoorW.PrintLast Go.Proofs.YthdddcegopgopaaDoorW.PrintMore
attribute [local go_sem] max2_int min2_int max_two min_two max_three min_three max_four min_four   -- for this text's walks alone
set_option linter.unusedVariables false
set_option linter.unusedSimpArgs false
set_option maxHeartbeats 8000000
set_option maxRecDepth 100000

/-! ### bytealg_LastIndexByteString: function 78 -/
def bytealg_LastIndexByteString.l0 : Nat → ByteArray → Int → Int → Option (Int)
 | 0, _, _, _ => none
 | k + 1, x0, x1, x5 => if x5 ≥ 0 then (if 0 ≤ x5 then (if x5 < (x0.size : Int) then (if (bt x0 x5) = x1 then (some x5) else (bytealg_LastIndexByteString.l0 k x0 x1 (wrap64 (x5 - 1)))) else (none)) else (none)) else (some (-1))
def bytealg_LastIndexByteString.f (k : Nat) (a0 : ByteArray) (a1 : Int) : Option (Int) := bytealg_LastIndexByteString.l0 k a0 a1 (wrap64 ((a0.size : Int) - 1))
theorem bytealg_LastIndexByteString.mono_l : ∀ k, (∀ y0 y1 y2, LeO (bytealg_LastIndexByteString.l0 k y0 y1 y2) (bytealg_LastIndexByteString.l0 (k + 1) y0 y1 y2))
 | 0 => fun _ _ _ r h => by simp [bytealg_LastIndexByteString.l0] at h
 | k + 1 => by
  have ih0 := bytealg_LastIndexByteString.mono_l k
  ·
   intro y0 y1 y2
   unfold bytealg_LastIndexByteString.l0
   repeat' first
   | (with_reducible exact ih0 _ _ _)
   | (with_reducible exact LeO.refl _)
   | (with_reducible exact LeO.none _)
   | (with_reducible refine LeO.ite ?_ ?_)
   | (with_reducible refine LeO.bind ?_ (fun _ => ?_))
   | exact ih0 _ _ _
   | exact LeO.none _
   | refine LeO.ite ?_ ?_
   | refine LeO.bind ?_ (fun _ => ?_)
theorem bytealg_LastIndexByteString.mono : ∀ a0 a1 k, LeO (bytealg_LastIndexByteString.f k a0 a1) (bytealg_LastIndexByteString.f (k + 1) a0 a1) := by
 intro a0 a1 k
 have ih0 := bytealg_LastIndexByteString.mono_l k
 unfold bytealg_LastIndexByteString.f
 repeat' first
   | (with_reducible exact ih0 _ _ _)
   | (with_reducible exact LeO.refl _)
   | (with_reducible exact LeO.none _)
   | (with_reducible refine LeO.ite ?_ ?_)
   | (with_reducible refine LeO.bind ?_ (fun _ => ?_))
   | exact ih0 _ _ _
   | exact LeO.none _
   | refine LeO.ite ?_ ?_
   | refine LeO.bind ?_ (fun _ => ?_)
theorem bytealg_LastIndexByteString.calls (k : Nat) (a0 : ByteArray) (a1 : Int) (r : Int) (w : World) (h : bytealg_LastIndexByteString.f k a0 a1 = some r) :
  Calls Tryd.prog 78 #[.string a0, .int .u8 a1] w fun e w' => e = .returned (.int .i64 r) ∧ Drawn0 w w' := by
 have H : (bytealg_LastIndexByteString.l0 k a0 a1 (wrap64 ((a0.size : Int) - 1))) = some r := h
 clear h
 have H' := aa H
 clear H
 go_enter Tryd.func78, Tryd.ntmps78
 go_wp2
 go_loopg [5] k (fun kq v5 w' => ∃ (x5_1 : Int), v5 = .int .i64 x5_1 ∧ Aside0 (bytealg_LastIndexByteString.l0 kq a0 a1 x5_1 = some r) ∧ Aside0 (kq ≤ k) ∧ Drawn0 w w')
 case atStart => exact ⟨(wrap64 ((a0.size : Int) - 1)), zagbkp, H', ⟨Nat.le_refl _⟩, by repeat (first | exact Drawn0.refl _ | apply Drawn0.step)⟩
 case round =>
  clear H'
  try clear p2
  obtain ⟨x5_1, rfl, HA, HK1, ⟨m1, rfl⟩⟩ := hrel
  cases gk with
  | zero => exact absurd HA.out (by simp [bytealg_LastIndexByteString.l0])
  | succ k1 =>
   have H := HA.out
   clear HA
   simp only [bytealg_LastIndexByteString.l0] at H
   by_cases c3 : x5_1 ≥ 0
   ·
    rw [if_pos c3] at H
    have c3b0 : decide (0 ≤ x5_1) = true := decide_eq_true c3
    clear c3
    by_cases c4 : 0 ≤ x5_1
    ·
     rw [if_pos c4] at H
     have c4b0 : decide (0 ≤ x5_1) = true := decide_eq_true c4
     clear c4
     by_cases c5 : x5_1 < (a0.size : Int)
     ·
      rw [if_pos c5] at H
      have c5b0 : decide (x5_1 < (a0.size : Int)) = true := decide_eq_true c5
      clear c5
      by_cases c7 : (bt a0 x5_1) = a1
      ·
       rw [if_pos c7] at H
       have c7b0 : ((bt a0 x5_1) == a1) = true := beq_iff_eq.mpr c7
       have c7b1 : ((bt a0 x5_1) != a1) = false := bne_eq_false_iff_eq.mpr c7
       clear c7
       obtain rfl := Option.some.inj H
       have p6 : 0 ≤ (x5_1 : Int) := of_decide_eq_true zgglam
       have q6 : x5_1 < (a0.size : Int) := of_decide_eq_true zgglam
       have hx6 := bt_at a0 x5_1
       replace p6 := eq_true p6
       replace q6 := eq_true q6
       go_wp2
       go_ret
       exact ⟨by first | rfl | (simp; done) | (simp [*]; done), by repeat (first | exact Drawn0.refl _ | apply Drawn0.step)⟩
      ·
       rw [if_neg c7] at H
       have c7b0 : ((bt a0 x5_1) == a1) = false := beq_eq_false_iff_ne.mpr c7
       have c7b1 : ((bt a0 x5_1) != a1) = true := bne_iff_ne.mpr c7
       have H' := aa H
       clear H
       have p6 : 0 ≤ (x5_1 : Int) := of_decide_eq_true zgglam
       have q6 : x5_1 < (a0.size : Int) := of_decide_eq_true zgglam
       have hx6 := bt_at a0 x5_1
       replace p6 := eq_true p6
       replace q6 := eq_true q6
       go_wp2
       go_roundg k1
       case measure => have := HK1.out; omega
       case rel => exact ⟨(wrap64 (x5_1 - 1)), zagbkp, H', ⟨by have := HK1.out; omega⟩, by repeat (first | exact Drawn0.refl _ | apply Drawn0.step)⟩
     ·
      rw [if_neg c5] at H
      exact absurd H (by simp)
    ·
     rw [if_neg c4] at H
     exact absurd H (by simp)
   ·
    rw [if_neg c3] at H
    have c3b0 : decide (0 ≤ x5_1) = false := decide_eq_false c3
    clear c3
    obtain rfl := Option.some.inj H
    go_wp2
    go_ret
    exact ⟨by first | rfl | (simp; done) | (simp [*]; done), by repeat (first | exact Drawn0.refl _ | apply Drawn0.step)⟩

end Go.Proofs.YthdddcegopgopaaDoor.Qa

-- By gp.py (wip/gen of the work's repo), a program of this workplace over the kit's print: Lean checks it.
namespace Go.Proofs.YthdddcegopgopaaDoor.Qa
open Go.RowKit Go.Proofs.YthdddcegopgopaaDoorW.PrintWords Go.Proofs.YthdddcegopgopaaDoorW.PrintLast Go.Proofs.YthdddcegopgopaaDoorW.PrintMore
attribute [local go_sem] max2_int min2_int max_two min_two max_three min_three max_four min_four   -- for this text's walks alone
set_option linter.unusedVariables false
set_option linter.unusedSimpArgs false
set_option maxHeartbeats 8000000
set_option maxRecDepth 100000

/-! ### strings_LastIndex: function 63 -/
def strings_LastIndex.f (k : Nat) (a0 : ByteArray) (a1 : ByteArray) : Option (Int) := if (a1.size : Int) = 0 then (some (a0.size : Int)) else (if (a1.size : Int) = 1 then (if 0 < (a1.size : Int) then ((bytealg_LastIndexByteString.f k a0 (bt a1 0)).bind fun t101 => (some t101)) else (none)) else (if (a1.size : Int) = (a0.size : Int) then (if a1.toList = a0.toList then (some 0) else (some (-1))) else (if (a1.size : Int) > (a0.size : Int) then (some (-1)) else (none))))
theorem strings_LastIndex.mono : ∀ a0 a1 k, LeO (strings_LastIndex.f k a0 a1) (strings_LastIndex.f (k + 1) a0 a1) := by
 intro a0 a1 k
 unfold strings_LastIndex.f
 repeat' first
   | (with_reducible exact bytealg_LastIndexByteString.mono _ _ _)
   | (with_reducible exact LeO.refl _)
   | (with_reducible exact LeO.none _)
   | (with_reducible refine LeO.ite ?_ ?_)
   | (with_reducible refine LeO.bind ?_ (fun _ => ?_))
   | exact bytealg_LastIndexByteString.mono _ _ _
   | exact LeO.none _
   | refine LeO.ite ?_ ?_
   | refine LeO.bind ?_ (fun _ => ?_)
theorem strings_LastIndex.calls (k : Nat) (a0 : ByteArray) (a1 : ByteArray) (r : Int) (w : World) (h : strings_LastIndex.f k a0 a1 = some r) :
  Calls Tryd.prog 63 #[.string a0, .string a1] w fun e w' => e = .returned (.int .i64 r) ∧ Drawn0 w w' := by
 have H : (if (a1.size : Int) = 0 then (some (a0.size : Int)) else (if (a1.size : Int) = 1 then (if 0 < (a1.size : Int) then ((bytealg_LastIndexByteString.f k a0 (bt a1 0)).bind fun t101 => (some t101)) else (none)) else (if (a1.size : Int) = (a0.size : Int) then (if a1.toList = a0.toList then (some 0) else (some (-1))) else (if (a1.size : Int) > (a0.size : Int) then (some (-1)) else (none))))) = some r := h
 clear h
 by_cases c3 : (a1.size : Int) = 0
 ·
  rw [if_pos c3] at H
  have c3b0 : ((a1.size : Int) == 0) = true := beq_iff_eq.mpr c3
  have c3b1 : ((a1.size : Int) != 0) = false := bne_eq_false_iff_eq.mpr c3
  clear c3
  obtain rfl := Option.some.inj H
  go_enter Tryd.func63, Tryd.ntmps63
  go_wp2
  go_ret
  exact ⟨by first | rfl | (simp; done) | (simp [*]; done), by repeat (first | exact Drawn0.refl _ | apply Drawn0.step)⟩
 ·
  rw [if_neg c3] at H
  have c3b0 : ((a1.size : Int) == 0) = false := beq_eq_false_iff_ne.mpr c3
  have c3b1 : ((a1.size : Int) != 0) = true := bne_iff_ne.mpr c3
  by_cases c4 : (a1.size : Int) = 1
  ·
   rw [if_pos c4] at H
   have c4b0 : ((a1.size : Int) == 1) = true := beq_iff_eq.mpr c4
   have c4b1 : ((a1.size : Int) != 1) = false := bne_eq_false_iff_eq.mpr c4
   clear c4
   by_cases c5 : 0 < (a1.size : Int)
   ·
    rw [if_pos c5] at H
    have c5b0 : decide (0 < (a1.size : Int)) = true := decide_eq_true c5
    have c5b1 : decide (0 < a1.size) = true := decide_eq_true (by omega)
    clear c5
    replace H := Option.bind_eq_some_iff.mp H
    obtain ⟨t101, A70, H⟩ := H
    replace H : (some t101) = some r := H
    have A7 := aa A70
    clear A70
    obtain rfl := Option.some.inj H
    have p6 : 0 ≤ (0 : Int) := (by omega)
    have q6 : 0 < a1.size := (by have : (0 : Int) < (a1.size : Int) := of_decide_eq_true zgglam; omega)
    have hx6 : ∀ h : 0 < a1.size, ((a1[0]'h).toNat : Int) = bt a1 0 := bt_at a1 0
    clear p6
    have qi6 : (0 < (a1.size : Int)) = True := eq_true (of_decide_eq_true zgglam)
    replace q6 := eq_true q6
    go_enter Tryd.func63, Tryd.ntmps63
    go_wp2_with (first | ((with_reducible refine gate_callee (f := 78) rfl ?_); refine goesL_ (some 19) rfl rfl Tryd.func78 (by kernel_rfl) rfl #[.string a0, .int .u8 (bt a1 0)] rfl zjnmae ?_; (with_reducible refine (bytealg_LastIndexByteString.calls k a0 (bt a1 0) t101 _ A7.out).mono ?_); rintro e w' ⟨rfl, ⟨nd, rfl⟩⟩; refine ⟨_, rfl, ?_⟩))
    go_ret
    exact ⟨by first | rfl | (simp; done) | (simp [*]; done), by repeat (first | exact Drawn0.refl _ | apply Drawn0.step)⟩
   ·
    rw [if_neg c5] at H
    exact absurd H (by simp)
  ·
   rw [if_neg c4] at H
   have c4b0 : ((a1.size : Int) == 1) = false := beq_eq_false_iff_ne.mpr c4
   have c4b1 : ((a1.size : Int) != 1) = true := bne_iff_ne.mpr c4
   by_cases c8 : (a1.size : Int) = (a0.size : Int)
   ·
    rw [if_pos c8] at H
    have c8b0 : ((a1.size : Int) == (a0.size : Int)) = true := beq_iff_eq.mpr c8
    have c8b1 : ((a1.size : Int) != (a0.size : Int)) = false := bne_eq_false_iff_eq.mpr c8
    have c8b2 : (a1.size == a0.size) = true := by first | simpa using c8 | (simp at c8 ⊢; omega)
    clear c8
    by_cases c9 : a1.toList = a0.toList
    ·
     rw [if_pos c9] at H
     have c9b0 : (a1.toList == a0.toList) = true := beq_iff_eq.mpr c9
     have c9b1 : (a1.toList != a0.toList) = false := bne_eq_false_iff_eq.mpr c9
     clear c9
     obtain rfl := Option.some.inj H
     go_enter Tryd.func63, Tryd.ntmps63
     go_wp2
     go_ret
     exact ⟨by first | rfl | (simp; done) | (simp [*]; done), by repeat (first | exact Drawn0.refl _ | apply Drawn0.step)⟩
    ·
     rw [if_neg c9] at H
     have c9b0 : (a1.toList == a0.toList) = false := beq_eq_false_iff_ne.mpr c9
     have c9b1 : (a1.toList != a0.toList) = true := bne_iff_ne.mpr c9
     obtain rfl := Option.some.inj H
     go_enter Tryd.func63, Tryd.ntmps63
     go_wp2
     go_ret
     exact ⟨by first | rfl | (simp; done) | (simp [*]; done), by repeat (first | exact Drawn0.refl _ | apply Drawn0.step)⟩
   ·
    rw [if_neg c8] at H
    have c8b0 : ((a1.size : Int) == (a0.size : Int)) = false := beq_eq_false_iff_ne.mpr c8
    have c8b1 : ((a1.size : Int) != (a0.size : Int)) = true := bne_iff_ne.mpr c8
    have c8b2 : (a1.size == a0.size) = false := by first | simpa using c8 | (simp at c8 ⊢; omega)
    by_cases c10 : (a1.size : Int) > (a0.size : Int)
    ·
     rw [if_pos c10] at H
     have c10b0 : decide ((a0.size : Int) < (a1.size : Int)) = true := decide_eq_true c10
     have c10b1 : decide (a0.size < a1.size) = true := decide_eq_true (Int.ofNat_lt.mp c10)
     clear c10
     obtain rfl := Option.some.inj H
     go_enter Tryd.func63, Tryd.ntmps63
     go_wp2
     go_ret
     exact ⟨by first | rfl | (simp; done) | (simp [*]; done), by repeat (first | exact Drawn0.refl _ | apply Drawn0.step)⟩
    ·
     rw [if_neg c10] at H
     exact absurd H (by simp)

end Go.Proofs.YthdddcegopgopaaDoor.Qa

-- By gp.py (wip/gen of the work's repo), a program of this workplace over the kit's print: Lean checks it.
namespace Go.Proofs.YthdddcegopgopaaDoor.Qa
open Go.RowKit Go.Proofs.YthdddcegopgopaaDoorW.PrintWords Go.Proofs.YthdddcegopgopaaDoorW.PrintLast Go.Proofs.YthdddcegopgopaaDoorW.PrintMore
attribute [local go_sem] max2_int min2_int max_two min_two max_three min_three max_four min_four   -- for this text's walks alone
set_option linter.unusedVariables false
set_option linter.unusedSimpArgs false
set_option maxHeartbeats 8000000
set_option maxRecDepth 100000

/-! ### impl_parted: function 39 -/
def impl_parted.f (k : Nat) (a0 : ByteArray) : Option (ByteArray × ByteArray) := (strings_LastIndex.f k a0 (⟨#[47]⟩ : ByteArray)).bind fun t101 => (if 0 ≤ (mx t101 1) then (if (mx t101 1) ≤ (a0.size : Int) then (if 0 ≤ (wrap64 (t101 + 1)) then (if (wrap64 (t101 + 1)) ≤ (a0.size : Int) then (some (a0.extract 0 ((mx t101 1) : Int).toNat, a0.extract ((wrap64 (t101 + 1)) : Int).toNat a0.size)) else (none)) else (none)) else (none)) else (none))
theorem impl_parted.mono : ∀ a0 k, LeO (impl_parted.f k a0) (impl_parted.f (k + 1) a0) := by
 intro a0 k
 unfold impl_parted.f
 repeat' first
   | (with_reducible exact strings_LastIndex.mono _ _ _)
   | (with_reducible exact LeO.refl _)
   | (with_reducible exact LeO.none _)
   | (with_reducible refine LeO.ite ?_ ?_)
   | (with_reducible refine LeO.bind ?_ (fun _ => ?_))
   | exact strings_LastIndex.mono _ _ _
   | exact LeO.none _
   | refine LeO.ite ?_ ?_
   | refine LeO.bind ?_ (fun _ => ?_)
theorem impl_parted.calls (k : Nat) (a0 : ByteArray) (r1 : ByteArray) (r2 : ByteArray) (w : World) (h : impl_parted.f k a0 = some (r1, r2)) :
  Calls Tryd.prog 39 #[.string a0] w fun e w' => e = .returned (.tuple #[.string r1, .string r2]) ∧ Below w.heap.size w w' := by
 have HB := aa (Below.refl w.heap.size w)
 have H : ((strings_LastIndex.f k a0 (⟨#[47]⟩ : ByteArray)).bind fun t101 => (if 0 ≤ (mx t101 1) then (if (mx t101 1) ≤ (a0.size : Int) then (if 0 ≤ (wrap64 (t101 + 1)) then (if (wrap64 (t101 + 1)) ≤ (a0.size : Int) then (some (a0.extract 0 ((mx t101 1) : Int).toNat, a0.extract ((wrap64 (t101 + 1)) : Int).toNat a0.size)) else (none)) else (none)) else (none)) else (none))) = some (r1, r2) := h
 clear h
 replace H := Option.bind_eq_some_iff.mp H
 obtain ⟨t101, A20, H⟩ := H
 replace H : (if 0 ≤ (mx t101 1) then (if (mx t101 1) ≤ (a0.size : Int) then (if 0 ≤ (wrap64 (t101 + 1)) then (if (wrap64 (t101 + 1)) ≤ (a0.size : Int) then (some (a0.extract 0 ((mx t101 1) : Int).toNat, a0.extract ((wrap64 (t101 + 1)) : Int).toNat a0.size)) else (none)) else (none)) else (none)) else (none)) = some (r1, r2) := H
 have A2 := aa A20
 clear A20
 obtain ⟨ji3, hji3⟩ : ∃ j_ : Int, (mx t101 1) = j_ := ⟨_, rfl⟩
 replace H : (if 0 ≤ (ji3) then (if (ji3) ≤ (a0.size : Int) then (if 0 ≤ (wrap64 (t101 + 1)) then (if (wrap64 (t101 + 1)) ≤ (a0.size : Int) then (some (a0.extract 0 ((ji3) : Int).toNat, a0.extract ((wrap64 (t101 + 1)) : Int).toNat a0.size)) else (none)) else (none)) else (none)) else (none)) = some (r1, r2) := by first | (rw [hji3] at H; exact H) | (simp only [hji3] at H ⊢; exact H)
 (try rw [hji3] at A2)
 (try (have hji3l : 1 ≤ ji3 := by (rw [← hji3]; unfold mx; (repeat' split) <;> omega)))
 (try (have hji3m : 0 ≤ ji3 := by omega))
 have hji3_ : (if t101 < 1 then 1 else t101) = ji3 := hji3
 by_cases c4 : 0 ≤ (ji3)
 ·
  rw [if_pos c4] at H
  have c4b0 := eq_true c4
  have c4b1 : decide (0 ≤ (ji3)) = true := decide_eq_true c4
  clear c4
  by_cases c5 : (ji3) ≤ (a0.size : Int)
  ·
   rw [if_pos c5] at H
   have c5b0 := eq_true c5
   have c5b1 : decide ((ji3) ≤ (a0.size : Int)) = true := decide_eq_true c5
   clear c5
   obtain ⟨ji6, hji6⟩ : ∃ j_ : Int, (wrap64 (t101 + 1)) = j_ := ⟨_, rfl⟩
   replace H : (if 0 ≤ (ji6) then (if (ji6) ≤ (a0.size : Int) then (some (a0.extract 0 ((ji3) : Int).toNat, a0.extract ((ji6) : Int).toNat a0.size)) else (none)) else (none)) = some (r1, r2) := by first | (rw [hji6] at H; exact H) | (simp only [hji6] at H ⊢; exact H)
   (try rw [hji6] at A2)
   have hji6w : (IntKind.i64.wrap (t101 + 1)) = ji6 := (i64_w _).trans hji6
   by_cases c7 : 0 ≤ (ji6)
   ·
    rw [if_pos c7] at H
    have c7b0 := eq_true c7
    have c7b1 : decide (0 ≤ (ji6)) = true := decide_eq_true c7
    clear c7
    by_cases c8 : (ji6) ≤ (a0.size : Int)
    ·
     rw [if_pos c8] at H
     have c8b0 := eq_true c8
     have c8b1 : decide ((ji6) ≤ (a0.size : Int)) = true := decide_eq_true c8
     clear c8
     simp only [Option.some.injEq, Prod.mk.injEq] at H
     obtain ⟨rfl, rfl⟩ := H
     go_enter Tryd.func39, Tryd.ntmps39
     go_wp2_with (first | (go_at_call 63; (with_reducible refine (strings_LastIndex.calls k a0 (⟨#[47]⟩ : ByteArray) t101 _ A2.out).mono ?_); rintro e w' ⟨rfl, ⟨nd, rfl⟩⟩; (try exact zecaha)))
     repeat (go_quiet (first | (go_at_call 63; (with_reducible refine (strings_LastIndex.calls k a0 (⟨#[47]⟩ : ByteArray) t101 _ A2.out).mono ?_); rintro e w' ⟨rfl, ⟨nd, rfl⟩⟩; (try exact zecaha))); try go_wp2_with (first | (go_at_call 63; (with_reducible refine (strings_LastIndex.calls k a0 (⟨#[47]⟩ : ByteArray) t101 _ A2.out).mono ?_); rintro e w' ⟨rfl, ⟨nd, rfl⟩⟩; (try exact zecaha))))
     go_ret2
     exact ⟨by first | rfl | (simp [errW_none, errW_some] <;> rfl) | (simp only [← hji3, ← hji6]; first | rfl | (simp [errW_none, errW_some] <;> rfl)) | (simp [*, errW_none, errW_some] <;> rfl), by repeat (first | (with_reducible first | exact HB.out | apply below_alloc | apply pw_below_drewN | apply below_drew1) | exact HB.out)⟩
    ·
     rw [if_neg c8] at H
     exact absurd H (by simp)
   ·
    rw [if_neg c7] at H
    exact absurd H (by simp)
  ·
   rw [if_neg c5] at H
   exact absurd H (by simp)
 ·
  rw [if_neg c4] at H
  exact absurd H (by simp)

end Go.Proofs.YthdddcegopgopaaDoor.Qa

-- By gp.py (wip/gen of the work's repo), a program of this workplace over the kit's print: Lean checks it.
namespace Go.Proofs.YthdddcegopgopaaDoor.Qa
open Go.RowKit Go.Proofs.YthdddcegopgopaaDoorW.PrintWords Go.Proofs.YthdddcegopgopaaDoorW.PrintLast Go.Proofs.YthdddcegopgopaaDoorW.PrintMore
attribute [local go_sem] max2_int min2_int max_two min_two max_three min_three max_four min_four   -- for this text's walks alone
set_option linter.unusedVariables false
set_option linter.unusedSimpArgs false
set_option maxHeartbeats 8000000
set_option maxRecDepth 100000

/-! ### impl_isData: function 37 -/
def impl_isData.f (a0 : Int) : Option (Bool) := (impl_within.f a0 0 9999).bind fun t101 => (some t101)
theorem impl_isData.calls (a0 : Int) (r : Bool) (w : World) (h : impl_isData.f a0 = some r) :
  Calls Tryd.prog 37 #[.int .i64 a0] w fun e w' => e = .returned (.bool r) ∧ Drawn0 w w' := by
 have H : ((impl_within.f a0 0 9999).bind fun t101 => (some t101)) = some r := h
 clear h
 replace H := Option.bind_eq_some_iff.mp H
 obtain ⟨t101, A20, H⟩ := H
 replace H : (some t101) = some r := H
 have A2 := aa A20
 clear A20
 obtain rfl := Option.some.inj H
 go_enter Tryd.func37, Tryd.ntmps37
 go_wp2_with (first | ((with_reducible refine gate_callee (f := 62) rfl ?_); refine goesL_ (some 4) rfl rfl Tryd.func62 (by kernel_rfl) rfl #[.int .i64 a0, .int .i64 0, .int .i64 9999] rfl zjnmae ?_; (with_reducible refine (impl_within.calls a0 0 9999 t101 _ A2.out).mono ?_); rintro e w' ⟨rfl, ⟨nd, rfl⟩⟩; refine ⟨_, rfl, ?_⟩))
 go_ret
 exact ⟨by first | rfl | (simp; done) | (simp [*]; done), by repeat (first | exact Drawn0.refl _ | apply Drawn0.step)⟩

end Go.Proofs.YthdddcegopgopaaDoor.Qa

-- By gp.py (wip/gen of the work's repo), a program of this workplace over the kit's print: Lean checks it.
namespace Go.Proofs.YthdddcegopgopaaDoor.Qa
open Go.RowKit Go.Proofs.YthdddcegopgopaaDoorW.PrintWords Go.Proofs.YthdddcegopgopaaDoorW.PrintLast Go.Proofs.YthdddcegopgopaaDoorW.PrintMore
attribute [local go_sem] max2_int min2_int max_two min_two max_three min_three max_four min_four   -- for this text's walks alone
set_option linter.unusedVariables false
set_option linter.unusedSimpArgs false
set_option maxHeartbeats 8000000
set_option maxRecDepth 100000

/-! ### impl_isOwner: function 38 -/
def impl_isOwner.f (a0 : Int) : Option (Bool) := (impl_within.f a0 0 9).bind fun t101 => (some t101)
theorem impl_isOwner.calls (a0 : Int) (r : Bool) (w : World) (h : impl_isOwner.f a0 = some r) :
  Calls Tryd.prog 38 #[.int .i64 a0] w fun e w' => e = .returned (.bool r) ∧ Drawn0 w w' := by
 have H : ((impl_within.f a0 0 9).bind fun t101 => (some t101)) = some r := h
 clear h
 replace H := Option.bind_eq_some_iff.mp H
 obtain ⟨t101, A20, H⟩ := H
 replace H : (some t101) = some r := H
 have A2 := aa A20
 clear A20
 obtain rfl := Option.some.inj H
 go_enter Tryd.func38, Tryd.ntmps38
 go_wp2_with (first | ((with_reducible refine gate_callee (f := 62) rfl ?_); refine goesL_ (some 4) rfl rfl Tryd.func62 (by kernel_rfl) rfl #[.int .i64 a0, .int .i64 0, .int .i64 9] rfl zjnmae ?_; (with_reducible refine (impl_within.calls a0 0 9 t101 _ A2.out).mono ?_); rintro e w' ⟨rfl, ⟨nd, rfl⟩⟩; refine ⟨_, rfl, ?_⟩))
 go_ret
 exact ⟨by first | rfl | (simp; done) | (simp [*]; done), by repeat (first | exact Drawn0.refl _ | apply Drawn0.step)⟩

end Go.Proofs.YthdddcegopgopaaDoor.Qa

-- By gp.py (wip/gen of the work's repo), a program of this workplace over the kit's print: Lean checks it.
namespace Go.Proofs.YthdddcegopgopaaDoor.Qa
open Go.RowKit Go.Proofs.YthdddcegopgopaaDoorW.PrintWords Go.Proofs.YthdddcegopgopaaDoorW.PrintLast Go.Proofs.YthdddcegopgopaaDoorW.PrintMore
attribute [local go_sem] max2_int min2_int max_two min_two max_three min_three max_four min_four   -- for this text's walks alone
set_option linter.unusedVariables false
set_option linter.unusedSimpArgs false
set_option maxHeartbeats 8000000
set_option maxRecDepth 100000

/-! ### impl_nodeFault: function 70 -/
def impl_nodeFault.f (k : Nat) (a0_0 : ByteArray) (a0_1 : Int) (a0_2 : Int) (a0_3 : Int) (a0_4 : Int) : Option (Int) := (impl_PathFault.f k a0_0).bind fun t102 => (if t102 = 0 then ((impl_isData.f a0_1).bind fun t103 => (if t103 = true then ((impl_within.f a0_2 0 999).bind fun t104 => (if t104 = true then ((impl_isOwner.f a0_3).bind fun t105 => (if t105 = true then ((impl_within.f a0_4 0 100).bind fun t106 => (if t106 = true then (some 0) else (some 3))) else (some 3))) else (some 3))) else (some 3))) else (some t102))
theorem impl_nodeFault.mono : ∀ a0 a1 a2 a3 a4 k, LeO (impl_nodeFault.f k a0 a1 a2 a3 a4) (impl_nodeFault.f (k + 1) a0 a1 a2 a3 a4) := by
 intro a0 a1 a2 a3 a4 k
 unfold impl_nodeFault.f
 repeat' first
   | (with_reducible exact impl_PathFault.mono _ _)
   | (with_reducible exact LeO.refl _)
   | (with_reducible exact LeO.none _)
   | (with_reducible refine LeO.ite ?_ ?_)
   | (with_reducible refine LeO.bind ?_ (fun _ => ?_))
   | exact impl_PathFault.mono _ _
   | exact LeO.none _
   | refine LeO.ite ?_ ?_
   | refine LeO.bind ?_ (fun _ => ?_)
theorem impl_nodeFault.calls (k : Nat) (a0_0 : ByteArray) (a0_1 : Int) (a0_2 : Int) (a0_3 : Int) (a0_4 : Int) (r : Int) (w : World) (h : impl_nodeFault.f k a0_0 a0_1 a0_2 a0_3 a0_4 = some r) :
  Calls Tryd.prog 70 #[.agg #[.string a0_0, .int .i64 a0_1, .int .i64 a0_2, .int .i64 a0_3, .int .i64 a0_4]] w fun e w' => e = .returned (.int .i64 r) ∧ Below w.heap.size w w' := by
 have hu47 := Tryd.underlying47
 have HB := aa (Below.refl w.heap.size w)
 have H : ((impl_PathFault.f k a0_0).bind fun t102 => (if t102 = 0 then ((impl_isData.f a0_1).bind fun t103 => (if t103 = true then ((impl_within.f a0_2 0 999).bind fun t104 => (if t104 = true then ((impl_isOwner.f a0_3).bind fun t105 => (if t105 = true then ((impl_within.f a0_4 0 100).bind fun t106 => (if t106 = true then (some 0) else (some 3))) else (some 3))) else (some 3))) else (some 3))) else (some t102))) = some r := h
 clear h
 replace H := Option.bind_eq_some_iff.mp H
 obtain ⟨t102, A20, H⟩ := H
 replace H : (if t102 = 0 then ((impl_isData.f a0_1).bind fun t103 => (if t103 = true then ((impl_within.f a0_2 0 999).bind fun t104 => (if t104 = true then ((impl_isOwner.f a0_3).bind fun t105 => (if t105 = true then ((impl_within.f a0_4 0 100).bind fun t106 => (if t106 = true then (some 0) else (some 3))) else (some 3))) else (some 3))) else (some 3))) else (some t102)) = some r := H
 have A2 := aa A20
 clear A20
 by_cases c3 : t102 = 0
 ·
  rw [if_pos c3] at H
  have c3b0 : (t102 == 0) = true := beq_iff_eq.mpr c3
  have c3b1 : (t102 != 0) = false := bne_eq_false_iff_eq.mpr c3
  clear c3
  replace H := Option.bind_eq_some_iff.mp H
  obtain ⟨t103, A40, H⟩ := H
  replace H : (if t103 = true then ((impl_within.f a0_2 0 999).bind fun t104 => (if t104 = true then ((impl_isOwner.f a0_3).bind fun t105 => (if t105 = true then ((impl_within.f a0_4 0 100).bind fun t106 => (if t106 = true then (some 0) else (some 3))) else (some 3))) else (some 3))) else (some 3)) = some r := H
  have A4 := aa A40
  clear A40
  by_cases c5 : t103 = true
  ·
   subst c5
   have H1 : ((impl_within.f a0_2 0 999).bind fun t104 => (if t104 = true then ((impl_isOwner.f a0_3).bind fun t105 => (if t105 = true then ((impl_within.f a0_4 0 100).bind fun t106 => (if t106 = true then (some 0) else (some 3))) else (some 3))) else (some 3))) = some r := by rw [if_pos rfl] at H; exact H
   clear H
   have H := H1
   clear H1
   replace H := Option.bind_eq_some_iff.mp H
   obtain ⟨t104, A60, H⟩ := H
   replace H : (if t104 = true then ((impl_isOwner.f a0_3).bind fun t105 => (if t105 = true then ((impl_within.f a0_4 0 100).bind fun t106 => (if t106 = true then (some 0) else (some 3))) else (some 3))) else (some 3)) = some r := H
   have A6 := aa A60
   clear A60
   by_cases c7 : t104 = true
   ·
    subst c7
    have H1 : ((impl_isOwner.f a0_3).bind fun t105 => (if t105 = true then ((impl_within.f a0_4 0 100).bind fun t106 => (if t106 = true then (some 0) else (some 3))) else (some 3))) = some r := by rw [if_pos rfl] at H; exact H
    clear H
    have H := H1
    clear H1
    replace H := Option.bind_eq_some_iff.mp H
    obtain ⟨t105, A80, H⟩ := H
    replace H : (if t105 = true then ((impl_within.f a0_4 0 100).bind fun t106 => (if t106 = true then (some 0) else (some 3))) else (some 3)) = some r := H
    have A8 := aa A80
    clear A80
    by_cases c9 : t105 = true
    ·
     subst c9
     have H1 : ((impl_within.f a0_4 0 100).bind fun t106 => (if t106 = true then (some 0) else (some 3))) = some r := by rw [if_pos rfl] at H; exact H
     clear H
     have H := H1
     clear H1
     replace H := Option.bind_eq_some_iff.mp H
     obtain ⟨t106, A100, H⟩ := H
     replace H : (if t106 = true then (some 0) else (some 3)) = some r := H
     have A10 := aa A100
     clear A100
     by_cases c11 : t106 = true
     ·
      subst c11
      have H1 : (some 0) = some r := by rw [if_pos rfl] at H; exact H
      clear H
      have H := H1
      clear H1
      obtain rfl := Option.some.inj H
      go_enter Tryd.func70, Tryd.ntmps70
      go_wp2_with (first | ((with_reducible refine gate_dst (N := 1) rfl ?_); refine box_event ?hg (N := 1) ?hd (cs := #[.string a0_0, .int .i64 a0_1, .int .i64 a0_2, .int .i64 a0_3, .int .i64 a0_4]) (t := 47) ?hr ?_; (case hd => rfl); (case hg => rfl); (case hr => exact zhlgcp); intro gb101 hg w12 hbox hb; have n0_ := aa (below_step zjjbob hb); have n1_ := aa (hbox); have n2_ := aa ((zkpfjp : w.heap.size ≤ gb101)); have n3_ := aa ((zkpfjp : w.heap.size ≤ gb101)); clear HB; have HB := n0_; have BK101 := n1_; have GW101 := n2_; have GE101 := n3_; clear n0_ n1_ n2_ n3_; clear hb hbox hg; have hcz13_0 : w12.cell? ⟨gb101, 0, none⟩ = some (.string a0_0) := (blk_cell BK101.out 0).trans rfl; have hcz13_1 : w12.cell? ⟨gb101, 1, none⟩ = some (.int .i64 a0_1) := (blk_cell BK101.out 1).trans rfl; have hcz13_2 : w12.cell? ⟨gb101, 2, none⟩ = some (.int .i64 a0_2) := (blk_cell BK101.out 2).trans rfl; have hcz13_3 : w12.cell? ⟨gb101, 3, none⟩ = some (.int .i64 a0_3) := (blk_cell BK101.out 3).trans rfl; have hcz13_4 : w12.cell? ⟨gb101, 4, none⟩ = some (.int .i64 a0_4) := (blk_cell BK101.out 4).trans rfl; have hfz13_0 := blk_frozen BK101.out 0; have hfz13_1 := blk_frozen BK101.out 1; have hfz13_2 := blk_frozen BK101.out 2; have hfz13_3 := blk_frozen BK101.out 3; have hfz13_4 := blk_frozen BK101.out 4) | ((with_reducible refine gate_callee (f := 42) rfl ?_); refine goesL_ (some 6) rfl rfl Tryd.func42 (by kernel_rfl) rfl #[.string a0_0] rfl zjnmae ?_; (with_reducible refine (impl_PathFault.calls k a0_0 t102 _ A2.out).mono ?_); rintro e w14 ⟨rfl, hb⟩; refine ⟨_, rfl, ?_⟩; have n0_ := aa (blk_below (g := gb101) (o := .cells #[.string a0_0, .int .i64 a0_1, .int .i64 a0_2, .int .i64 a0_3, .int .i64 a0_4] 47 (0, 0)) (zkjhpm BK101.out) hb); have n1_ := aa (below_step zkmbdh hb); clear BK101; clear HB; have BK101 := n0_; have HB := n1_; clear n0_ n1_; (try clear hb); (try clear hb2); (try clear hk); (try clear hi); have hcz15_0 : w14.cell? ⟨gb101, 0, none⟩ = some (.string a0_0) := (blk_cell BK101.out 0).trans rfl; have hcz15_1 : w14.cell? ⟨gb101, 1, none⟩ = some (.int .i64 a0_1) := (blk_cell BK101.out 1).trans rfl; have hcz15_2 : w14.cell? ⟨gb101, 2, none⟩ = some (.int .i64 a0_2) := (blk_cell BK101.out 2).trans rfl; have hcz15_3 : w14.cell? ⟨gb101, 3, none⟩ = some (.int .i64 a0_3) := (blk_cell BK101.out 3).trans rfl; have hcz15_4 : w14.cell? ⟨gb101, 4, none⟩ = some (.int .i64 a0_4) := (blk_cell BK101.out 4).trans rfl; have hfz15_0 := blk_frozen BK101.out 0; have hfz15_1 := blk_frozen BK101.out 1; have hfz15_2 := blk_frozen BK101.out 2; have hfz15_3 := blk_frozen BK101.out 3; have hfz15_4 := blk_frozen BK101.out 4) | ((with_reducible refine gate_callee (f := 37) rfl ?_); refine goesL_ (some 12) rfl rfl Tryd.func37 (by kernel_rfl) rfl #[.int .i64 a0_1] rfl zjnmae ?_; (with_reducible refine (impl_isData.calls a0_1 true _ A4.out).mono ?_); rintro e w' ⟨rfl, ⟨nd, rfl⟩⟩; refine ⟨_, rfl, ?_⟩) | (go_at_call 62; (with_reducible refine (impl_within.calls a0_2 0 999 true _ A6.out).mono ?_); rintro e w' ⟨rfl, ⟨nd, rfl⟩⟩) | (go_at_call 38; (with_reducible refine (impl_isOwner.calls a0_3 true _ A8.out).mono ?_); rintro e w' ⟨rfl, ⟨nd, rfl⟩⟩) | (go_at_call 62; (with_reducible refine (impl_within.calls a0_4 0 100 true _ A10.out).mono ?_); rintro e w' ⟨rfl, ⟨nd, rfl⟩⟩))
      go_ret
      exact ⟨by first | rfl | (simp [errW_none, errW_some] <;> rfl) | (simp [*, errW_none, errW_some] <;> rfl), by repeat (first | (with_reducible first | exact HB.out | apply below_alloc | apply pw_below_drewN | apply below_drew1 | refine below_set ?_ GE101.out) | exact HB.out)⟩
     ·
      replace c11 := Bool.eq_false_iff.mpr c11
      subst c11
      have H1 : (some 3) = some r := by rw [if_neg (show ¬ (false = true) by decide)] at H; exact H
      clear H
      have H := H1
      clear H1
      obtain rfl := Option.some.inj H
      go_enter Tryd.func70, Tryd.ntmps70
      go_wp2_with (first | ((with_reducible refine gate_dst (N := 1) rfl ?_); refine box_event ?hg (N := 1) ?hd (cs := #[.string a0_0, .int .i64 a0_1, .int .i64 a0_2, .int .i64 a0_3, .int .i64 a0_4]) (t := 47) ?hr ?_; (case hd => rfl); (case hg => rfl); (case hr => exact zhlgcp); intro gb101 hg w16 hbox hb; have n0_ := aa (below_step zjjbob hb); have n1_ := aa (hbox); have n2_ := aa ((zkpfjp : w.heap.size ≤ gb101)); have n3_ := aa ((zkpfjp : w.heap.size ≤ gb101)); clear HB; have HB := n0_; have BK101 := n1_; have GW101 := n2_; have GE101 := n3_; clear n0_ n1_ n2_ n3_; clear hb hbox hg; have hcz17_0 : w16.cell? ⟨gb101, 0, none⟩ = some (.string a0_0) := (blk_cell BK101.out 0).trans rfl; have hcz17_1 : w16.cell? ⟨gb101, 1, none⟩ = some (.int .i64 a0_1) := (blk_cell BK101.out 1).trans rfl; have hcz17_2 : w16.cell? ⟨gb101, 2, none⟩ = some (.int .i64 a0_2) := (blk_cell BK101.out 2).trans rfl; have hcz17_3 : w16.cell? ⟨gb101, 3, none⟩ = some (.int .i64 a0_3) := (blk_cell BK101.out 3).trans rfl; have hcz17_4 : w16.cell? ⟨gb101, 4, none⟩ = some (.int .i64 a0_4) := (blk_cell BK101.out 4).trans rfl; have hfz17_0 := blk_frozen BK101.out 0; have hfz17_1 := blk_frozen BK101.out 1; have hfz17_2 := blk_frozen BK101.out 2; have hfz17_3 := blk_frozen BK101.out 3; have hfz17_4 := blk_frozen BK101.out 4) | ((with_reducible refine gate_callee (f := 42) rfl ?_); refine goesL_ (some 6) rfl rfl Tryd.func42 (by kernel_rfl) rfl #[.string a0_0] rfl zjnmae ?_; (with_reducible refine (impl_PathFault.calls k a0_0 t102 _ A2.out).mono ?_); rintro e w18 ⟨rfl, hb⟩; refine ⟨_, rfl, ?_⟩; have n0_ := aa (blk_below (g := gb101) (o := .cells #[.string a0_0, .int .i64 a0_1, .int .i64 a0_2, .int .i64 a0_3, .int .i64 a0_4] 47 (0, 0)) (zkjhpm BK101.out) hb); have n1_ := aa (below_step zkmbdh hb); clear BK101; clear HB; have BK101 := n0_; have HB := n1_; clear n0_ n1_; (try clear hb); (try clear hb2); (try clear hk); (try clear hi); have hcz19_0 : w18.cell? ⟨gb101, 0, none⟩ = some (.string a0_0) := (blk_cell BK101.out 0).trans rfl; have hcz19_1 : w18.cell? ⟨gb101, 1, none⟩ = some (.int .i64 a0_1) := (blk_cell BK101.out 1).trans rfl; have hcz19_2 : w18.cell? ⟨gb101, 2, none⟩ = some (.int .i64 a0_2) := (blk_cell BK101.out 2).trans rfl; have hcz19_3 : w18.cell? ⟨gb101, 3, none⟩ = some (.int .i64 a0_3) := (blk_cell BK101.out 3).trans rfl; have hcz19_4 : w18.cell? ⟨gb101, 4, none⟩ = some (.int .i64 a0_4) := (blk_cell BK101.out 4).trans rfl; have hfz19_0 := blk_frozen BK101.out 0; have hfz19_1 := blk_frozen BK101.out 1; have hfz19_2 := blk_frozen BK101.out 2; have hfz19_3 := blk_frozen BK101.out 3; have hfz19_4 := blk_frozen BK101.out 4) | ((with_reducible refine gate_callee (f := 37) rfl ?_); refine goesL_ (some 12) rfl rfl Tryd.func37 (by kernel_rfl) rfl #[.int .i64 a0_1] rfl zjnmae ?_; (with_reducible refine (impl_isData.calls a0_1 true _ A4.out).mono ?_); rintro e w' ⟨rfl, ⟨nd, rfl⟩⟩; refine ⟨_, rfl, ?_⟩) | (go_at_call 62; (with_reducible refine (impl_within.calls a0_2 0 999 true _ A6.out).mono ?_); rintro e w' ⟨rfl, ⟨nd, rfl⟩⟩) | (go_at_call 38; (with_reducible refine (impl_isOwner.calls a0_3 true _ A8.out).mono ?_); rintro e w' ⟨rfl, ⟨nd, rfl⟩⟩) | (go_at_call 62; (with_reducible refine (impl_within.calls a0_4 0 100 false _ A10.out).mono ?_); rintro e w' ⟨rfl, ⟨nd, rfl⟩⟩))
      go_ret
      exact ⟨by first | rfl | (simp [errW_none, errW_some] <;> rfl) | (simp [*, errW_none, errW_some] <;> rfl), by repeat (first | (with_reducible first | exact HB.out | apply below_alloc | apply pw_below_drewN | apply below_drew1 | refine below_set ?_ GE101.out) | exact HB.out)⟩
    ·
     replace c9 := Bool.eq_false_iff.mpr c9
     subst c9
     have H1 : (some 3) = some r := by rw [if_neg (show ¬ (false = true) by decide)] at H; exact H
     clear H
     have H := H1
     clear H1
     obtain rfl := Option.some.inj H
     go_enter Tryd.func70, Tryd.ntmps70
     go_wp2_with (first | ((with_reducible refine gate_dst (N := 1) rfl ?_); refine box_event ?hg (N := 1) ?hd (cs := #[.string a0_0, .int .i64 a0_1, .int .i64 a0_2, .int .i64 a0_3, .int .i64 a0_4]) (t := 47) ?hr ?_; (case hd => rfl); (case hg => rfl); (case hr => exact zhlgcp); intro gb101 hg w20 hbox hb; have n0_ := aa (below_step zjjbob hb); have n1_ := aa (hbox); have n2_ := aa ((zkpfjp : w.heap.size ≤ gb101)); have n3_ := aa ((zkpfjp : w.heap.size ≤ gb101)); clear HB; have HB := n0_; have BK101 := n1_; have GW101 := n2_; have GE101 := n3_; clear n0_ n1_ n2_ n3_; clear hb hbox hg; have hcz21_0 : w20.cell? ⟨gb101, 0, none⟩ = some (.string a0_0) := (blk_cell BK101.out 0).trans rfl; have hcz21_1 : w20.cell? ⟨gb101, 1, none⟩ = some (.int .i64 a0_1) := (blk_cell BK101.out 1).trans rfl; have hcz21_2 : w20.cell? ⟨gb101, 2, none⟩ = some (.int .i64 a0_2) := (blk_cell BK101.out 2).trans rfl; have hcz21_3 : w20.cell? ⟨gb101, 3, none⟩ = some (.int .i64 a0_3) := (blk_cell BK101.out 3).trans rfl; have hcz21_4 : w20.cell? ⟨gb101, 4, none⟩ = some (.int .i64 a0_4) := (blk_cell BK101.out 4).trans rfl; have hfz21_0 := blk_frozen BK101.out 0; have hfz21_1 := blk_frozen BK101.out 1; have hfz21_2 := blk_frozen BK101.out 2; have hfz21_3 := blk_frozen BK101.out 3; have hfz21_4 := blk_frozen BK101.out 4) | ((with_reducible refine gate_callee (f := 42) rfl ?_); refine goesL_ (some 6) rfl rfl Tryd.func42 (by kernel_rfl) rfl #[.string a0_0] rfl zjnmae ?_; (with_reducible refine (impl_PathFault.calls k a0_0 t102 _ A2.out).mono ?_); rintro e w22 ⟨rfl, hb⟩; refine ⟨_, rfl, ?_⟩; have n0_ := aa (blk_below (g := gb101) (o := .cells #[.string a0_0, .int .i64 a0_1, .int .i64 a0_2, .int .i64 a0_3, .int .i64 a0_4] 47 (0, 0)) (zkjhpm BK101.out) hb); have n1_ := aa (below_step zkmbdh hb); clear BK101; clear HB; have BK101 := n0_; have HB := n1_; clear n0_ n1_; (try clear hb); (try clear hb2); (try clear hk); (try clear hi); have hcz23_0 : w22.cell? ⟨gb101, 0, none⟩ = some (.string a0_0) := (blk_cell BK101.out 0).trans rfl; have hcz23_1 : w22.cell? ⟨gb101, 1, none⟩ = some (.int .i64 a0_1) := (blk_cell BK101.out 1).trans rfl; have hcz23_2 : w22.cell? ⟨gb101, 2, none⟩ = some (.int .i64 a0_2) := (blk_cell BK101.out 2).trans rfl; have hcz23_3 : w22.cell? ⟨gb101, 3, none⟩ = some (.int .i64 a0_3) := (blk_cell BK101.out 3).trans rfl; have hcz23_4 : w22.cell? ⟨gb101, 4, none⟩ = some (.int .i64 a0_4) := (blk_cell BK101.out 4).trans rfl; have hfz23_0 := blk_frozen BK101.out 0; have hfz23_1 := blk_frozen BK101.out 1; have hfz23_2 := blk_frozen BK101.out 2; have hfz23_3 := blk_frozen BK101.out 3; have hfz23_4 := blk_frozen BK101.out 4) | ((with_reducible refine gate_callee (f := 37) rfl ?_); refine goesL_ (some 12) rfl rfl Tryd.func37 (by kernel_rfl) rfl #[.int .i64 a0_1] rfl zjnmae ?_; (with_reducible refine (impl_isData.calls a0_1 true _ A4.out).mono ?_); rintro e w' ⟨rfl, ⟨nd, rfl⟩⟩; refine ⟨_, rfl, ?_⟩) | (go_at_call 62; (with_reducible refine (impl_within.calls a0_2 0 999 true _ A6.out).mono ?_); rintro e w' ⟨rfl, ⟨nd, rfl⟩⟩) | (go_at_call 38; (with_reducible refine (impl_isOwner.calls a0_3 false _ A8.out).mono ?_); rintro e w' ⟨rfl, ⟨nd, rfl⟩⟩))
     go_ret
     exact ⟨by first | rfl | (simp [errW_none, errW_some] <;> rfl) | (simp [*, errW_none, errW_some] <;> rfl), by repeat (first | (with_reducible first | exact HB.out | apply below_alloc | apply pw_below_drewN | apply below_drew1 | refine below_set ?_ GE101.out) | exact HB.out)⟩
   ·
    replace c7 := Bool.eq_false_iff.mpr c7
    subst c7
    have H1 : (some 3) = some r := by rw [if_neg (show ¬ (false = true) by decide)] at H; exact H
    clear H
    have H := H1
    clear H1
    obtain rfl := Option.some.inj H
    go_enter Tryd.func70, Tryd.ntmps70
    go_wp2_with (first | ((with_reducible refine gate_dst (N := 1) rfl ?_); refine box_event ?hg (N := 1) ?hd (cs := #[.string a0_0, .int .i64 a0_1, .int .i64 a0_2, .int .i64 a0_3, .int .i64 a0_4]) (t := 47) ?hr ?_; (case hd => rfl); (case hg => rfl); (case hr => exact zhlgcp); intro gb101 hg w24 hbox hb; have n0_ := aa (below_step zjjbob hb); have n1_ := aa (hbox); have n2_ := aa ((zkpfjp : w.heap.size ≤ gb101)); have n3_ := aa ((zkpfjp : w.heap.size ≤ gb101)); clear HB; have HB := n0_; have BK101 := n1_; have GW101 := n2_; have GE101 := n3_; clear n0_ n1_ n2_ n3_; clear hb hbox hg; have hcz25_0 : w24.cell? ⟨gb101, 0, none⟩ = some (.string a0_0) := (blk_cell BK101.out 0).trans rfl; have hcz25_1 : w24.cell? ⟨gb101, 1, none⟩ = some (.int .i64 a0_1) := (blk_cell BK101.out 1).trans rfl; have hcz25_2 : w24.cell? ⟨gb101, 2, none⟩ = some (.int .i64 a0_2) := (blk_cell BK101.out 2).trans rfl; have hcz25_3 : w24.cell? ⟨gb101, 3, none⟩ = some (.int .i64 a0_3) := (blk_cell BK101.out 3).trans rfl; have hcz25_4 : w24.cell? ⟨gb101, 4, none⟩ = some (.int .i64 a0_4) := (blk_cell BK101.out 4).trans rfl; have hfz25_0 := blk_frozen BK101.out 0; have hfz25_1 := blk_frozen BK101.out 1; have hfz25_2 := blk_frozen BK101.out 2; have hfz25_3 := blk_frozen BK101.out 3; have hfz25_4 := blk_frozen BK101.out 4) | ((with_reducible refine gate_callee (f := 42) rfl ?_); refine goesL_ (some 6) rfl rfl Tryd.func42 (by kernel_rfl) rfl #[.string a0_0] rfl zjnmae ?_; (with_reducible refine (impl_PathFault.calls k a0_0 t102 _ A2.out).mono ?_); rintro e w26 ⟨rfl, hb⟩; refine ⟨_, rfl, ?_⟩; have n0_ := aa (blk_below (g := gb101) (o := .cells #[.string a0_0, .int .i64 a0_1, .int .i64 a0_2, .int .i64 a0_3, .int .i64 a0_4] 47 (0, 0)) (zkjhpm BK101.out) hb); have n1_ := aa (below_step zkmbdh hb); clear BK101; clear HB; have BK101 := n0_; have HB := n1_; clear n0_ n1_; (try clear hb); (try clear hb2); (try clear hk); (try clear hi); have hcz27_0 : w26.cell? ⟨gb101, 0, none⟩ = some (.string a0_0) := (blk_cell BK101.out 0).trans rfl; have hcz27_1 : w26.cell? ⟨gb101, 1, none⟩ = some (.int .i64 a0_1) := (blk_cell BK101.out 1).trans rfl; have hcz27_2 : w26.cell? ⟨gb101, 2, none⟩ = some (.int .i64 a0_2) := (blk_cell BK101.out 2).trans rfl; have hcz27_3 : w26.cell? ⟨gb101, 3, none⟩ = some (.int .i64 a0_3) := (blk_cell BK101.out 3).trans rfl; have hcz27_4 : w26.cell? ⟨gb101, 4, none⟩ = some (.int .i64 a0_4) := (blk_cell BK101.out 4).trans rfl; have hfz27_0 := blk_frozen BK101.out 0; have hfz27_1 := blk_frozen BK101.out 1; have hfz27_2 := blk_frozen BK101.out 2; have hfz27_3 := blk_frozen BK101.out 3; have hfz27_4 := blk_frozen BK101.out 4) | ((with_reducible refine gate_callee (f := 37) rfl ?_); refine goesL_ (some 12) rfl rfl Tryd.func37 (by kernel_rfl) rfl #[.int .i64 a0_1] rfl zjnmae ?_; (with_reducible refine (impl_isData.calls a0_1 true _ A4.out).mono ?_); rintro e w' ⟨rfl, ⟨nd, rfl⟩⟩; refine ⟨_, rfl, ?_⟩) | (go_at_call 62; (with_reducible refine (impl_within.calls a0_2 0 999 false _ A6.out).mono ?_); rintro e w' ⟨rfl, ⟨nd, rfl⟩⟩))
    go_ret
    exact ⟨by first | rfl | (simp [errW_none, errW_some] <;> rfl) | (simp [*, errW_none, errW_some] <;> rfl), by repeat (first | (with_reducible first | exact HB.out | apply below_alloc | apply pw_below_drewN | apply below_drew1 | refine below_set ?_ GE101.out) | exact HB.out)⟩
  ·
   replace c5 := Bool.eq_false_iff.mpr c5
   subst c5
   have H1 : (some 3) = some r := by rw [if_neg (show ¬ (false = true) by decide)] at H; exact H
   clear H
   have H := H1
   clear H1
   obtain rfl := Option.some.inj H
   go_enter Tryd.func70, Tryd.ntmps70
   go_wp2_with (first | ((with_reducible refine gate_dst (N := 1) rfl ?_); refine box_event ?hg (N := 1) ?hd (cs := #[.string a0_0, .int .i64 a0_1, .int .i64 a0_2, .int .i64 a0_3, .int .i64 a0_4]) (t := 47) ?hr ?_; (case hd => rfl); (case hg => rfl); (case hr => exact zhlgcp); intro gb101 hg w28 hbox hb; have n0_ := aa (below_step zjjbob hb); have n1_ := aa (hbox); have n2_ := aa ((zkpfjp : w.heap.size ≤ gb101)); have n3_ := aa ((zkpfjp : w.heap.size ≤ gb101)); clear HB; have HB := n0_; have BK101 := n1_; have GW101 := n2_; have GE101 := n3_; clear n0_ n1_ n2_ n3_; clear hb hbox hg; have hcz29_0 : w28.cell? ⟨gb101, 0, none⟩ = some (.string a0_0) := (blk_cell BK101.out 0).trans rfl; have hcz29_1 : w28.cell? ⟨gb101, 1, none⟩ = some (.int .i64 a0_1) := (blk_cell BK101.out 1).trans rfl; have hcz29_2 : w28.cell? ⟨gb101, 2, none⟩ = some (.int .i64 a0_2) := (blk_cell BK101.out 2).trans rfl; have hcz29_3 : w28.cell? ⟨gb101, 3, none⟩ = some (.int .i64 a0_3) := (blk_cell BK101.out 3).trans rfl; have hcz29_4 : w28.cell? ⟨gb101, 4, none⟩ = some (.int .i64 a0_4) := (blk_cell BK101.out 4).trans rfl; have hfz29_0 := blk_frozen BK101.out 0; have hfz29_1 := blk_frozen BK101.out 1; have hfz29_2 := blk_frozen BK101.out 2; have hfz29_3 := blk_frozen BK101.out 3; have hfz29_4 := blk_frozen BK101.out 4) | ((with_reducible refine gate_callee (f := 42) rfl ?_); refine goesL_ (some 6) rfl rfl Tryd.func42 (by kernel_rfl) rfl #[.string a0_0] rfl zjnmae ?_; (with_reducible refine (impl_PathFault.calls k a0_0 t102 _ A2.out).mono ?_); rintro e w30 ⟨rfl, hb⟩; refine ⟨_, rfl, ?_⟩; have n0_ := aa (blk_below (g := gb101) (o := .cells #[.string a0_0, .int .i64 a0_1, .int .i64 a0_2, .int .i64 a0_3, .int .i64 a0_4] 47 (0, 0)) (zkjhpm BK101.out) hb); have n1_ := aa (below_step zkmbdh hb); clear BK101; clear HB; have BK101 := n0_; have HB := n1_; clear n0_ n1_; (try clear hb); (try clear hb2); (try clear hk); (try clear hi); have hcz31_0 : w30.cell? ⟨gb101, 0, none⟩ = some (.string a0_0) := (blk_cell BK101.out 0).trans rfl; have hcz31_1 : w30.cell? ⟨gb101, 1, none⟩ = some (.int .i64 a0_1) := (blk_cell BK101.out 1).trans rfl; have hcz31_2 : w30.cell? ⟨gb101, 2, none⟩ = some (.int .i64 a0_2) := (blk_cell BK101.out 2).trans rfl; have hcz31_3 : w30.cell? ⟨gb101, 3, none⟩ = some (.int .i64 a0_3) := (blk_cell BK101.out 3).trans rfl; have hcz31_4 : w30.cell? ⟨gb101, 4, none⟩ = some (.int .i64 a0_4) := (blk_cell BK101.out 4).trans rfl; have hfz31_0 := blk_frozen BK101.out 0; have hfz31_1 := blk_frozen BK101.out 1; have hfz31_2 := blk_frozen BK101.out 2; have hfz31_3 := blk_frozen BK101.out 3; have hfz31_4 := blk_frozen BK101.out 4) | ((with_reducible refine gate_callee (f := 37) rfl ?_); refine goesL_ (some 12) rfl rfl Tryd.func37 (by kernel_rfl) rfl #[.int .i64 a0_1] rfl zjnmae ?_; (with_reducible refine (impl_isData.calls a0_1 false _ A4.out).mono ?_); rintro e w' ⟨rfl, ⟨nd, rfl⟩⟩; refine ⟨_, rfl, ?_⟩))
   go_ret
   exact ⟨by first | rfl | (simp [errW_none, errW_some] <;> rfl) | (simp [*, errW_none, errW_some] <;> rfl), by repeat (first | (with_reducible first | exact HB.out | apply below_alloc | apply pw_below_drewN | apply below_drew1 | refine below_set ?_ GE101.out) | exact HB.out)⟩
 ·
  rw [if_neg c3] at H
  have c3b0 : (t102 == 0) = false := beq_eq_false_iff_ne.mpr c3
  have c3b1 : (t102 != 0) = true := bne_iff_ne.mpr c3
  obtain rfl := Option.some.inj H
  go_enter Tryd.func70, Tryd.ntmps70
  go_wp2_with (first | ((with_reducible refine gate_dst (N := 1) rfl ?_); refine box_event ?hg (N := 1) ?hd (cs := #[.string a0_0, .int .i64 a0_1, .int .i64 a0_2, .int .i64 a0_3, .int .i64 a0_4]) (t := 47) ?hr ?_; (case hd => rfl); (case hg => rfl); (case hr => exact zhlgcp); intro gb101 hg w32 hbox hb; have n0_ := aa (below_step zjjbob hb); have n1_ := aa (hbox); have n2_ := aa ((zkpfjp : w.heap.size ≤ gb101)); have n3_ := aa ((zkpfjp : w.heap.size ≤ gb101)); clear HB; have HB := n0_; have BK101 := n1_; have GW101 := n2_; have GE101 := n3_; clear n0_ n1_ n2_ n3_; clear hb hbox hg; have hcz33_0 : w32.cell? ⟨gb101, 0, none⟩ = some (.string a0_0) := (blk_cell BK101.out 0).trans rfl; have hcz33_1 : w32.cell? ⟨gb101, 1, none⟩ = some (.int .i64 a0_1) := (blk_cell BK101.out 1).trans rfl; have hcz33_2 : w32.cell? ⟨gb101, 2, none⟩ = some (.int .i64 a0_2) := (blk_cell BK101.out 2).trans rfl; have hcz33_3 : w32.cell? ⟨gb101, 3, none⟩ = some (.int .i64 a0_3) := (blk_cell BK101.out 3).trans rfl; have hcz33_4 : w32.cell? ⟨gb101, 4, none⟩ = some (.int .i64 a0_4) := (blk_cell BK101.out 4).trans rfl; have hfz33_0 := blk_frozen BK101.out 0; have hfz33_1 := blk_frozen BK101.out 1; have hfz33_2 := blk_frozen BK101.out 2; have hfz33_3 := blk_frozen BK101.out 3; have hfz33_4 := blk_frozen BK101.out 4) | ((with_reducible refine gate_callee (f := 42) rfl ?_); refine goesL_ (some 6) rfl rfl Tryd.func42 (by kernel_rfl) rfl #[.string a0_0] rfl zjnmae ?_; (with_reducible refine (impl_PathFault.calls k a0_0 t102 _ A2.out).mono ?_); rintro e w34 ⟨rfl, hb⟩; refine ⟨_, rfl, ?_⟩; have n0_ := aa (blk_below (g := gb101) (o := .cells #[.string a0_0, .int .i64 a0_1, .int .i64 a0_2, .int .i64 a0_3, .int .i64 a0_4] 47 (0, 0)) (zkjhpm BK101.out) hb); have n1_ := aa (below_step zkmbdh hb); clear BK101; clear HB; have BK101 := n0_; have HB := n1_; clear n0_ n1_; (try clear hb); (try clear hb2); (try clear hk); (try clear hi)))
  go_ret
  exact ⟨by first | rfl | (simp [errW_none, errW_some] <;> rfl) | (simp [*, errW_none, errW_some] <;> rfl), by repeat (first | (with_reducible first | exact HB.out | apply below_alloc | apply pw_below_drewN | apply below_drew1 | refine below_set ?_ GE101.out) | exact HB.out)⟩

end Go.Proofs.YthdddcegopgopaaDoor.Qa

-- By gp.py (wip/gen of the work's repo), a program of this workplace over the kit's print: Lean checks it.
namespace Go.Proofs.YthdddcegopgopaaDoor.Qa
open Go.RowKit Go.Proofs.YthdddcegopgopaaDoorW.PrintWords Go.Proofs.YthdddcegopgopaaDoorW.PrintLast Go.Proofs.YthdddcegopgopaaDoorW.PrintMore
attribute [local go_sem] max2_int min2_int max_two min_two max_three min_three max_four min_four   -- for this text's walks alone
set_option linter.unusedVariables false
set_option linter.unusedSimpArgs false
set_option maxHeartbeats 8000000
set_option maxRecDepth 100000

/-! ### impl_TreeFault: function 46 -/
mutual
def impl_TreeFault.l0 : Nat → List (S47) → List (S47) → Int → Int → Option (Int)
 | 0, _, _, _, _ => none
 | k + 1, x0, x18, x19, x20 => if x20 < x19 then (if 0 ≤ x20 then (if x20 < (x18.length : Int) then ((impl_nodeFault.f k ((rd_T47 x18 x20).f0) ((rd_T47 x18 x20).f1) ((rd_T47 x18 x20).f2) ((rd_T47 x18 x20).f3) ((rd_T47 x18 x20).f4)).bind fun t103 => (if t103 = 0 then (if x20 > 0 then (if 0 ≤ (wrap64 (x20 - 1)) then (if (wrap64 (x20 - 1)) < (x0.length : Int) then (if ((Op.bytesLess (((rd_T47 x0 (wrap64 (x20 - 1))).f0).toList) (((rd_T47 x18 x20).f0).toList)) = true) then (impl_TreeFault.l0 k x0 x18 x19 (wrap64 (x20 + 1))) else (some 1)) else (none)) else (none)) else (impl_TreeFault.l0 k x0 x18 x19 (wrap64 (x20 + 1)))) else (some t103))) else (none)) else (none)) else ((impl_find.f k x0 (⟨#[47]⟩ : ByteArray)).bind fun bt105 => (if bt105.2 = true then (if 0 < (x0.length : Int) then (if 1 ≤ (x0.length : Int) then ((some (x0.drop 1 : List (S47))).bind fun y108 => (impl_TreeFault.l1 k x0 (((rd_T47 x0 0).f3) != 0) y108 (y108.length : Int) 0)) else (none)) else (none)) else (some 4)))
def impl_TreeFault.l1 : Nat → List (S47) → Bool → List (S47) → Int → Int → Option (Int)
 | 0, _, _, _, _, _ => none
 | k + 1, x0, x8, x57, x58, x59 => if x59 < x58 then (if 0 ≤ x59 then (if x59 < (x57.length : Int) then ((impl_parted.f k ((rd_T47 x57 x59).f0)).bind fun bt114 => ((impl_find.f k x0 bt114.1).bind fun bt116 => (if bt116.2 = true then (if x8 = true then (impl_TreeFault.l1 k x0 true x57 x58 (wrap64 (x59 + 1))) else (if 0 ≤ bt116.1 then (if bt116.1 < (x0.length : Int) then (impl_TreeFault.l1 k x0 (((rd_T47 x0 bt116.1).f3) != 0) x57 x58 (wrap64 (x59 + 1))) else (none)) else (none))) else (some 4)))) else (none)) else (none)) else (if x8 = true then (some 1) else (some 0))
end
def impl_TreeFault.f (k : Nat) (l0 : List (S47)) : Option (Int) := if (l0.length : Int) > 20 then (some 2) else (impl_TreeFault.l0 k l0 l0 (l0.length : Int) 0)
theorem impl_TreeFault.mono_l : ∀ k, (∀ y0 y1 y2 y3, LeO (impl_TreeFault.l0 k y0 y1 y2 y3) (impl_TreeFault.l0 (k + 1) y0 y1 y2 y3)) ∧ (∀ y0 y1 y2 y3 y4, LeO (impl_TreeFault.l1 k y0 y1 y2 y3 y4) (impl_TreeFault.l1 (k + 1) y0 y1 y2 y3 y4))
 | 0 => ⟨fun _ _ _ _ r h => by simp [impl_TreeFault.l0] at h, fun _ _ _ _ _ r h => by simp [impl_TreeFault.l1] at h⟩
 | k + 1 => by
  obtain ⟨ih0, ih1⟩ := impl_TreeFault.mono_l k
  refine ⟨?_, ?_⟩
  ·
   intro y0 y1 y2 y3
   unfold impl_TreeFault.l0
   repeat' first
   | (with_reducible exact ih0 _ _ _ _)
   | (with_reducible exact ih1 _ _ _ _ _)
   | (with_reducible exact impl_find.mono _ _ _)
   | (with_reducible exact impl_nodeFault.mono _ _ _ _ _ _)
   | (with_reducible exact impl_parted.mono _ _)
   | (with_reducible exact LeO.refl _)
   | (with_reducible exact LeO.none _)
   | (with_reducible refine LeO.ite ?_ ?_)
   | (with_reducible refine LeO.bind ?_ (fun _ => ?_))
   | exact ih0 _ _ _ _
   | exact ih1 _ _ _ _ _
   | exact impl_find.mono _ _ _
   | exact impl_nodeFault.mono _ _ _ _ _ _
   | exact impl_parted.mono _ _
   | exact LeO.none _
   | refine LeO.ite ?_ ?_
   | refine LeO.bind ?_ (fun _ => ?_)
  ·
   intro y0 y1 y2 y3 y4
   unfold impl_TreeFault.l1
   repeat' first
   | (with_reducible exact ih0 _ _ _ _)
   | (with_reducible exact ih1 _ _ _ _ _)
   | (with_reducible exact impl_find.mono _ _ _)
   | (with_reducible exact impl_nodeFault.mono _ _ _ _ _ _)
   | (with_reducible exact impl_parted.mono _ _)
   | (with_reducible exact LeO.refl _)
   | (with_reducible exact LeO.none _)
   | (with_reducible refine LeO.ite ?_ ?_)
   | (with_reducible refine LeO.bind ?_ (fun _ => ?_))
   | exact ih0 _ _ _ _
   | exact ih1 _ _ _ _ _
   | exact impl_find.mono _ _ _
   | exact impl_nodeFault.mono _ _ _ _ _ _
   | exact impl_parted.mono _ _
   | exact LeO.none _
   | refine LeO.ite ?_ ?_
   | refine LeO.bind ?_ (fun _ => ?_)
theorem impl_TreeFault.mono : ∀ a0 k, LeO (impl_TreeFault.f k a0) (impl_TreeFault.f (k + 1) a0) := by
 intro a0 k
 obtain ⟨ih0, ih1⟩ := impl_TreeFault.mono_l k
 unfold impl_TreeFault.f
 repeat' first
   | (with_reducible exact ih0 _ _ _ _)
   | (with_reducible exact ih1 _ _ _ _ _)
   | (with_reducible exact impl_find.mono _ _ _)
   | (with_reducible exact impl_nodeFault.mono _ _ _ _ _ _)
   | (with_reducible exact impl_parted.mono _ _)
   | (with_reducible exact LeO.refl _)
   | (with_reducible exact LeO.none _)
   | (with_reducible refine LeO.ite ?_ ?_)
   | (with_reducible refine LeO.bind ?_ (fun _ => ?_))
   | exact ih0 _ _ _ _
   | exact ih1 _ _ _ _ _
   | exact impl_find.mono _ _ _
   | exact impl_nodeFault.mono _ _ _ _ _ _
   | exact impl_parted.mono _ _
   | exact LeO.none _
   | refine LeO.ite ?_ ?_
   | refine LeO.bind ?_ (fun _ => ?_)
theorem impl_TreeFault.calls (k : Nat) (A0 : Option Addr) (c0 : Nat) (l0 : List (S47)) (r : Int) (w : World) (hr0 : Kd.C k47 w A0 l0.length l0) (hc0 : l0.length ≤ c0) (h : impl_TreeFault.f k l0 = some r) :
  Calls Tryd.prog 46 #[.slice A0 l0.length c0] w fun e w' => e = .returned (.int .i64 r) ∧ Below w.heap.size w w' := by
 have hu47 := Tryd.underlying47
 have HR0 := aa hr0
 have HC0 := aa hc0
 clear hr0 hc0
 have HB := aa (Below.refl w.heap.size w)
 have H : (if (l0.length : Int) > 20 then (some 2) else (impl_TreeFault.l0 k l0 l0 (l0.length : Int) 0)) = some r := h
 clear h
 by_cases c2 : (l0.length : Int) > 20
 ·
  rw [if_pos c2] at H
  have c2b0 : decide (20 < (l0.length : Int)) = true := decide_eq_true c2
  have c2b1 : decide (20 < l0.length) = true := decide_eq_true (by omega)
  clear c2
  obtain rfl := Option.some.inj H
  go_enter Tryd.func46, Tryd.ntmps46
  go_wp2
  repeat (go_quiet (fail); try go_wp2)
  go_ret
  exact ⟨by first | rfl | (simp [errW_none, errW_some] <;> rfl) | (simp [*, errW_none, errW_some] <;> rfl), by repeat (first | (with_reducible first | exact HB.out | apply below_alloc | apply pw_below_drewN | apply below_drew1) | exact HB.out)⟩
 ·
  rw [if_neg c2] at H
  have c2b0 : decide (20 < (l0.length : Int)) = false := decide_eq_false c2
  have c2b1 : decide (20 < l0.length) = false := decide_eq_false (by omega)
  clear c2
  have H' := aa H
  clear H
  go_enter Tryd.func46, Tryd.ntmps46
  go_wp2
  repeat (go_quiet (fail); try go_wp2)
  go_loopg [20] k (fun kq v20 w' => ∃ (x20_1 : Int), v20 = .int .i64 x20_1 ∧ Aside0 (impl_TreeFault.l0 kq l0 l0 (l0.length : Int) x20_1 = some r) ∧ Aside0 (kq ≤ k) ∧ Aside0 (Below w.heap.size w w'))
  case atStart => exact ⟨(0), zagbkp, H', ⟨Nat.le_refl _⟩, ⟨by repeat (first | (with_reducible first | exact HB.out | apply below_alloc | apply pw_below_drewN | apply below_drew1) | exact HB.out)⟩⟩
  case round =>
   clear H'
   try clear c2
   try clear c2b0
   try clear c2b1
   try clear p2
   obtain ⟨x20_1, rfl, HA, HK1, HB⟩ := hrel
   cases gk with
   | zero => exact absurd HA.out (by simp [impl_TreeFault.l0])
   | succ k1 =>
    have H := HA.out
    clear HA
    simp only [impl_TreeFault.l0] at H
    by_cases c3 : x20_1 < (l0.length : Int)
    ·
     rw [if_pos c3] at H
     have c3b0 : decide (x20_1 < (l0.length : Int)) = true := decide_eq_true c3
     clear c3
     by_cases c4 : 0 ≤ x20_1
     ·
      rw [if_pos c4] at H
      have c4b0 : decide (0 ≤ x20_1) = true := decide_eq_true c4
      clear c4
      by_cases c5 : x20_1 < (l0.length : Int)
      ·
       rw [if_pos c5] at H
       have c5b0 : decide (x20_1 < (l0.length : Int)) = true := decide_eq_true c5
       clear c5
       replace H := Option.bind_eq_some_iff.mp H
       obtain ⟨t103, A60, H⟩ := H
       replace H : (if t103 = 0 then (if x20_1 > 0 then (if 0 ≤ (wrap64 (x20_1 - 1)) then (if (wrap64 (x20_1 - 1)) < (l0.length : Int) then (if ((Op.bytesLess (((rd_T47 l0 (wrap64 (x20_1 - 1))).f0).toList) (((rd_T47 l0 x20_1).f0).toList)) = true) then (impl_TreeFault.l0 k1 l0 l0 (l0.length : Int) (wrap64 (x20_1 + 1))) else (some 1)) else (none)) else (none)) else (impl_TreeFault.l0 k1 l0 l0 (l0.length : Int) (wrap64 (x20_1 + 1)))) else (some t103)) = some r := H
       have A6 := aa A60
       clear A60
       by_cases c7 : t103 = 0
       ·
        rw [if_pos c7] at H
        have c7b0 : (t103 == 0) = true := beq_iff_eq.mpr c7
        have c7b1 : (t103 != 0) = false := bne_eq_false_iff_eq.mpr c7
        clear c7
        by_cases c8 : x20_1 > 0
        ·
         rw [if_pos c8] at H
         have c8b0 : decide (0 < x20_1) = true := decide_eq_true c8
         clear c8
         obtain ⟨ji9, hji9⟩ : ∃ j_ : Int, (wrap64 (x20_1 - 1)) = j_ := ⟨_, rfl⟩
         replace H : (if 0 ≤ (ji9) then (if (ji9) < (l0.length : Int) then (if ((Op.bytesLess (((rd_T47 l0 (ji9)).f0).toList) (((rd_T47 l0 x20_1).f0).toList)) = true) then (impl_TreeFault.l0 k1 l0 l0 (l0.length : Int) (wrap64 (x20_1 + 1))) else (some 1)) else (none)) else (none)) = some r := by first | (rw [hji9] at H; exact H) | (simp only [hji9] at H ⊢; exact H)
         (try rw [hji9] at A6)
         have hji9w : (IntKind.i64.wrap (x20_1 - 1)) = ji9 := (i64_w _).trans hji9
         by_cases c10 : 0 ≤ (ji9)
         ·
          rw [if_pos c10] at H
          have c10b0 : decide (0 ≤ (ji9)) = true := decide_eq_true c10
          clear c10
          by_cases c11 : (ji9) < (l0.length : Int)
          ·
           rw [if_pos c11] at H
           have c11b0 : decide ((ji9) < (l0.length : Int)) = true := decide_eq_true c11
           clear c11
           by_cases c12 : ((Op.bytesLess (((rd_T47 l0 (ji9)).f0).toList) (((rd_T47 l0 x20_1).f0).toList)) = true)
           ·
            rw [if_pos c12] at H
            have c12b0 : (Op.bytesLess (((rd_T47 l0 (ji9)).f0).toList) (((rd_T47 l0 x20_1).f0).toList)) = true := c12
            have c12le_ : ∀ W_ : World, (binOp .leq 9 (.string ((rd_T47 l0 x20_1).f0)) (.string ((rd_T47 l0 (ji9)).f0))).run Tryd.prog W_ = Result.ok (.bool false) W_ := fun W_ => leq_false c12b0 W_
            clear c12
            have H' := aa H
            clear H
            have p101 : 0 ≤ (x20_1 : Int) := of_decide_eq_true zgglam
            have q101 : x20_1 < (l0.length : Int) := of_decide_eq_true zgglam
            obtain ⟨ad101, e101, hx101_0, hx101_1, hx101_2, hx101_3, hx101_4⟩ := at_T47 HR0.out x20_1 p101 q101
            cases e101
            replace hx101_0 := pb HB.out hx101_0
            replace hx101_1 := pb HB.out hx101_1
            replace hx101_2 := pb HB.out hx101_2
            replace hx101_3 := pb HB.out hx101_3
            replace hx101_4 := pb HB.out hx101_4
            replace p101 := eq_true p101
            replace q101 := eq_true q101
            go_wp2_with (first | ((with_reducible refine gate_dst (N := 4) rfl ?_); refine box_event ?hg (N := 4) ?hd (cs := #[.string (⟨#[]⟩ : ByteArray), .int .i64 0, .int .i64 0, .int .i64 0, .int .i64 0]) (t := 47) ?hr ?_; (case hd => rfl); (case hg => rfl); (case hr => exact zhlgcp); intro gb102 hg w13 hbox hb; have n0_ := aa (below_step zjjbob hb); have n1_ := aa (hbox); have n2_ := aa ((zkpfjp : w.heap.size ≤ gb102)); have n3_ := aa ((zkpfjp : w.heap.size ≤ gb102)); clear HB; have HB := n0_; have BK102 := n1_; have GW102 := n2_; have GE102 := n3_; clear n0_ n1_ n2_ n3_; clear hb hbox hg; have hcz14_0 : w13.cell? ⟨gb102, 0, none⟩ = some (.string (⟨#[]⟩ : ByteArray)) := (blk_cell BK102.out 0).trans rfl; have hcz14_1 : w13.cell? ⟨gb102, 1, none⟩ = some (.int .i64 0) := (blk_cell BK102.out 1).trans rfl; have hcz14_2 : w13.cell? ⟨gb102, 2, none⟩ = some (.int .i64 0) := (blk_cell BK102.out 2).trans rfl; have hcz14_3 : w13.cell? ⟨gb102, 3, none⟩ = some (.int .i64 0) := (blk_cell BK102.out 3).trans rfl; have hcz14_4 : w13.cell? ⟨gb102, 4, none⟩ = some (.int .i64 0) := (blk_cell BK102.out 4).trans rfl; have hfz14_0 := blk_frozen BK102.out 0; have hfz14_1 := blk_frozen BK102.out 1; have hfz14_2 := blk_frozen BK102.out 2; have hfz14_3 := blk_frozen BK102.out 3; have hfz14_4 := blk_frozen BK102.out 4) | (go_at_call 70; (with_reducible refine (impl_nodeFault.calls k1 ((rd_T47 l0 x20_1).f0) ((rd_T47 l0 x20_1).f1) ((rd_T47 l0 x20_1).f2) ((rd_T47 l0 x20_1).f3) ((rd_T47 l0 x20_1).f4) t103 _ A6.out).mono ?_); rintro e w15 ⟨rfl, hb⟩; have n0_ := aa (blk_below (g := gb102) (o := .cells #[.string ((rd_T47 l0 x20_1).f0), .int .i64 ((rd_T47 l0 x20_1).f1), .int .i64 ((rd_T47 l0 x20_1).f2), .int .i64 ((rd_T47 l0 x20_1).f3), .int .i64 ((rd_T47 l0 x20_1).f4)] 47 (0, 0)) zojdgp hb); have n1_ := aa (below_step zndomn hb); clear BK102; clear HB; have BK102 := n0_; have HB := n1_; clear n0_ n1_; (try clear hb); (try clear hb2); (try clear hk); (try clear hi); have hcz16_0 : w15.cell? ⟨gb102, 0, none⟩ = some (.string ((rd_T47 l0 x20_1).f0)) := (blk_cell BK102.out 0).trans rfl; have hcz16_1 : w15.cell? ⟨gb102, 1, none⟩ = some (.int .i64 ((rd_T47 l0 x20_1).f1)) := (blk_cell BK102.out 1).trans rfl; have hcz16_2 : w15.cell? ⟨gb102, 2, none⟩ = some (.int .i64 ((rd_T47 l0 x20_1).f2)) := (blk_cell BK102.out 2).trans rfl; have hcz16_3 : w15.cell? ⟨gb102, 3, none⟩ = some (.int .i64 ((rd_T47 l0 x20_1).f3)) := (blk_cell BK102.out 3).trans rfl; have hcz16_4 : w15.cell? ⟨gb102, 4, none⟩ = some (.int .i64 ((rd_T47 l0 x20_1).f4)) := (blk_cell BK102.out 4).trans rfl; have hfz16_0 := blk_frozen BK102.out 0; have hfz16_1 := blk_frozen BK102.out 1; have hfz16_2 := blk_frozen BK102.out 2; have hfz16_3 := blk_frozen BK102.out 3; have hfz16_4 := blk_frozen BK102.out 4; have p104 : 0 ≤ ((ji9) : Int) := of_decide_eq_true zgglam; have q104 : (ji9) < (l0.length : Int) := of_decide_eq_true zgglam; obtain ⟨ad104, e104, hx104_0, hx104_1, hx104_2, hx104_3, hx104_4⟩ := at_T47 HR0.out (ji9) p104 q104; obtain rfl : ad101 = ad104 := (by injection e104); replace hx104_0 := pb HB.out hx104_0; replace hx104_1 := pb HB.out hx104_1; replace hx104_2 := pb HB.out hx104_2; replace hx104_3 := pb HB.out hx104_3; replace hx104_4 := pb HB.out hx104_4; replace p104 := eq_true p104; replace q104 := eq_true q104))
            repeat (go_quiet (fail); try go_wp2)
            go_roundg k1
            case measure => have := HK1.out; omega
            case rel => exact ⟨(wrap64 (x20_1 + 1)), zagbkp, H', ⟨by have := HK1.out; omega⟩, ⟨by repeat (first | (with_reducible first | exact HB.out | apply below_alloc | apply pw_below_drewN | apply below_drew1 | refine below_set ?_ GE102.out) | exact HB.out)⟩⟩
           ·
            rw [if_neg c12] at H
            have c12b0 : (Op.bytesLess (((rd_T47 l0 (ji9)).f0).toList) (((rd_T47 l0 x20_1).f0).toList)) = false := by simpa using c12
            have c12le_ : ∀ W_ : World, (binOp .leq 9 (.string ((rd_T47 l0 x20_1).f0)) (.string ((rd_T47 l0 (ji9)).f0))).run Tryd.prog W_ = Result.ok (.bool true) W_ := fun W_ => leq_true c12b0 W_
            clear c12
            obtain rfl := Option.some.inj H
            have p101 : 0 ≤ (x20_1 : Int) := of_decide_eq_true zgglam
            have q101 : x20_1 < (l0.length : Int) := of_decide_eq_true zgglam
            obtain ⟨ad101, e101, hx101_0, hx101_1, hx101_2, hx101_3, hx101_4⟩ := at_T47 HR0.out x20_1 p101 q101
            cases e101
            replace hx101_0 := pb HB.out hx101_0
            replace hx101_1 := pb HB.out hx101_1
            replace hx101_2 := pb HB.out hx101_2
            replace hx101_3 := pb HB.out hx101_3
            replace hx101_4 := pb HB.out hx101_4
            replace p101 := eq_true p101
            replace q101 := eq_true q101
            go_wp2_with (first | ((with_reducible refine gate_dst (N := 4) rfl ?_); refine box_event ?hg (N := 4) ?hd (cs := #[.string (⟨#[]⟩ : ByteArray), .int .i64 0, .int .i64 0, .int .i64 0, .int .i64 0]) (t := 47) ?hr ?_; (case hd => rfl); (case hg => rfl); (case hr => exact zhlgcp); intro gb102 hg w17 hbox hb; have n0_ := aa (below_step zjjbob hb); have n1_ := aa (hbox); have n2_ := aa ((zkpfjp : w.heap.size ≤ gb102)); have n3_ := aa ((zkpfjp : w.heap.size ≤ gb102)); clear HB; have HB := n0_; have BK102 := n1_; have GW102 := n2_; have GE102 := n3_; clear n0_ n1_ n2_ n3_; clear hb hbox hg; have hcz18_0 : w17.cell? ⟨gb102, 0, none⟩ = some (.string (⟨#[]⟩ : ByteArray)) := (blk_cell BK102.out 0).trans rfl; have hcz18_1 : w17.cell? ⟨gb102, 1, none⟩ = some (.int .i64 0) := (blk_cell BK102.out 1).trans rfl; have hcz18_2 : w17.cell? ⟨gb102, 2, none⟩ = some (.int .i64 0) := (blk_cell BK102.out 2).trans rfl; have hcz18_3 : w17.cell? ⟨gb102, 3, none⟩ = some (.int .i64 0) := (blk_cell BK102.out 3).trans rfl; have hcz18_4 : w17.cell? ⟨gb102, 4, none⟩ = some (.int .i64 0) := (blk_cell BK102.out 4).trans rfl; have hfz18_0 := blk_frozen BK102.out 0; have hfz18_1 := blk_frozen BK102.out 1; have hfz18_2 := blk_frozen BK102.out 2; have hfz18_3 := blk_frozen BK102.out 3; have hfz18_4 := blk_frozen BK102.out 4) | (go_at_call 70; (with_reducible refine (impl_nodeFault.calls k1 ((rd_T47 l0 x20_1).f0) ((rd_T47 l0 x20_1).f1) ((rd_T47 l0 x20_1).f2) ((rd_T47 l0 x20_1).f3) ((rd_T47 l0 x20_1).f4) t103 _ A6.out).mono ?_); rintro e w19 ⟨rfl, hb⟩; have n0_ := aa (blk_below (g := gb102) (o := .cells #[.string ((rd_T47 l0 x20_1).f0), .int .i64 ((rd_T47 l0 x20_1).f1), .int .i64 ((rd_T47 l0 x20_1).f2), .int .i64 ((rd_T47 l0 x20_1).f3), .int .i64 ((rd_T47 l0 x20_1).f4)] 47 (0, 0)) zojdgp hb); have n1_ := aa (below_step zndomn hb); clear BK102; clear HB; have BK102 := n0_; have HB := n1_; clear n0_ n1_; (try clear hb); (try clear hb2); (try clear hk); (try clear hi); have hcz20_0 : w19.cell? ⟨gb102, 0, none⟩ = some (.string ((rd_T47 l0 x20_1).f0)) := (blk_cell BK102.out 0).trans rfl; have hcz20_1 : w19.cell? ⟨gb102, 1, none⟩ = some (.int .i64 ((rd_T47 l0 x20_1).f1)) := (blk_cell BK102.out 1).trans rfl; have hcz20_2 : w19.cell? ⟨gb102, 2, none⟩ = some (.int .i64 ((rd_T47 l0 x20_1).f2)) := (blk_cell BK102.out 2).trans rfl; have hcz20_3 : w19.cell? ⟨gb102, 3, none⟩ = some (.int .i64 ((rd_T47 l0 x20_1).f3)) := (blk_cell BK102.out 3).trans rfl; have hcz20_4 : w19.cell? ⟨gb102, 4, none⟩ = some (.int .i64 ((rd_T47 l0 x20_1).f4)) := (blk_cell BK102.out 4).trans rfl; have hfz20_0 := blk_frozen BK102.out 0; have hfz20_1 := blk_frozen BK102.out 1; have hfz20_2 := blk_frozen BK102.out 2; have hfz20_3 := blk_frozen BK102.out 3; have hfz20_4 := blk_frozen BK102.out 4; have p104 : 0 ≤ ((ji9) : Int) := of_decide_eq_true zgglam; have q104 : (ji9) < (l0.length : Int) := of_decide_eq_true zgglam; obtain ⟨ad104, e104, hx104_0, hx104_1, hx104_2, hx104_3, hx104_4⟩ := at_T47 HR0.out (ji9) p104 q104; obtain rfl : ad101 = ad104 := (by injection e104); replace hx104_0 := pb HB.out hx104_0; replace hx104_1 := pb HB.out hx104_1; replace hx104_2 := pb HB.out hx104_2; replace hx104_3 := pb HB.out hx104_3; replace hx104_4 := pb HB.out hx104_4; replace p104 := eq_true p104; replace q104 := eq_true q104))
            repeat (go_quiet (fail); try go_wp2)
            go_ret
            exact ⟨by first | rfl | (simp [errW_none, errW_some] <;> rfl) | (simp only [← hji9]; first | rfl | (simp [errW_none, errW_some] <;> rfl)) | (simp [*, errW_none, errW_some] <;> rfl), by repeat (first | (with_reducible first | exact HB.out | apply below_alloc | apply pw_below_drewN | apply below_drew1 | refine below_set ?_ GE102.out) | exact HB.out)⟩
          ·
           rw [if_neg c11] at H
           exact absurd H (by simp)
         ·
          rw [if_neg c10] at H
          exact absurd H (by simp)
        ·
         rw [if_neg c8] at H
         have c8b0 : decide (0 < x20_1) = false := decide_eq_false c8
         clear c8
         have H' := aa H
         clear H
         have p101 : 0 ≤ (x20_1 : Int) := of_decide_eq_true zgglam
         have q101 : x20_1 < (l0.length : Int) := of_decide_eq_true zgglam
         obtain ⟨ad101, e101, hx101_0, hx101_1, hx101_2, hx101_3, hx101_4⟩ := at_T47 HR0.out x20_1 p101 q101
         cases e101
         replace hx101_0 := pb HB.out hx101_0
         replace hx101_1 := pb HB.out hx101_1
         replace hx101_2 := pb HB.out hx101_2
         replace hx101_3 := pb HB.out hx101_3
         replace hx101_4 := pb HB.out hx101_4
         replace p101 := eq_true p101
         replace q101 := eq_true q101
         go_wp2_with (first | ((with_reducible refine gate_dst (N := 4) rfl ?_); refine box_event ?hg (N := 4) ?hd (cs := #[.string (⟨#[]⟩ : ByteArray), .int .i64 0, .int .i64 0, .int .i64 0, .int .i64 0]) (t := 47) ?hr ?_; (case hd => rfl); (case hg => rfl); (case hr => exact zhlgcp); intro gb102 hg w21 hbox hb; have n0_ := aa (below_step zjjbob hb); have n1_ := aa (hbox); have n2_ := aa ((zkpfjp : w.heap.size ≤ gb102)); have n3_ := aa ((zkpfjp : w.heap.size ≤ gb102)); clear HB; have HB := n0_; have BK102 := n1_; have GW102 := n2_; have GE102 := n3_; clear n0_ n1_ n2_ n3_; clear hb hbox hg; have hcz22_0 : w21.cell? ⟨gb102, 0, none⟩ = some (.string (⟨#[]⟩ : ByteArray)) := (blk_cell BK102.out 0).trans rfl; have hcz22_1 : w21.cell? ⟨gb102, 1, none⟩ = some (.int .i64 0) := (blk_cell BK102.out 1).trans rfl; have hcz22_2 : w21.cell? ⟨gb102, 2, none⟩ = some (.int .i64 0) := (blk_cell BK102.out 2).trans rfl; have hcz22_3 : w21.cell? ⟨gb102, 3, none⟩ = some (.int .i64 0) := (blk_cell BK102.out 3).trans rfl; have hcz22_4 : w21.cell? ⟨gb102, 4, none⟩ = some (.int .i64 0) := (blk_cell BK102.out 4).trans rfl; have hfz22_0 := blk_frozen BK102.out 0; have hfz22_1 := blk_frozen BK102.out 1; have hfz22_2 := blk_frozen BK102.out 2; have hfz22_3 := blk_frozen BK102.out 3; have hfz22_4 := blk_frozen BK102.out 4) | (go_at_call 70; (with_reducible refine (impl_nodeFault.calls k1 ((rd_T47 l0 x20_1).f0) ((rd_T47 l0 x20_1).f1) ((rd_T47 l0 x20_1).f2) ((rd_T47 l0 x20_1).f3) ((rd_T47 l0 x20_1).f4) t103 _ A6.out).mono ?_); rintro e w23 ⟨rfl, hb⟩; have n0_ := aa (blk_below (g := gb102) (o := .cells #[.string ((rd_T47 l0 x20_1).f0), .int .i64 ((rd_T47 l0 x20_1).f1), .int .i64 ((rd_T47 l0 x20_1).f2), .int .i64 ((rd_T47 l0 x20_1).f3), .int .i64 ((rd_T47 l0 x20_1).f4)] 47 (0, 0)) zojdgp hb); have n1_ := aa (below_step zndomn hb); clear BK102; clear HB; have BK102 := n0_; have HB := n1_; clear n0_ n1_; (try clear hb); (try clear hb2); (try clear hk); (try clear hi)))
         repeat (go_quiet (fail); try go_wp2)
         go_roundg k1
         case measure => have := HK1.out; omega
         case rel => exact ⟨(wrap64 (x20_1 + 1)), zagbkp, H', ⟨by have := HK1.out; omega⟩, ⟨by repeat (first | (with_reducible first | exact HB.out | apply below_alloc | apply pw_below_drewN | apply below_drew1 | refine below_set ?_ GE102.out) | exact HB.out)⟩⟩
       ·
        rw [if_neg c7] at H
        have c7b0 : (t103 == 0) = false := beq_eq_false_iff_ne.mpr c7
        have c7b1 : (t103 != 0) = true := bne_iff_ne.mpr c7
        obtain rfl := Option.some.inj H
        have p101 : 0 ≤ (x20_1 : Int) := of_decide_eq_true zgglam
        have q101 : x20_1 < (l0.length : Int) := of_decide_eq_true zgglam
        obtain ⟨ad101, e101, hx101_0, hx101_1, hx101_2, hx101_3, hx101_4⟩ := at_T47 HR0.out x20_1 p101 q101
        cases e101
        replace hx101_0 := pb HB.out hx101_0
        replace hx101_1 := pb HB.out hx101_1
        replace hx101_2 := pb HB.out hx101_2
        replace hx101_3 := pb HB.out hx101_3
        replace hx101_4 := pb HB.out hx101_4
        replace p101 := eq_true p101
        replace q101 := eq_true q101
        go_wp2_with (first | ((with_reducible refine gate_dst (N := 4) rfl ?_); refine box_event ?hg (N := 4) ?hd (cs := #[.string (⟨#[]⟩ : ByteArray), .int .i64 0, .int .i64 0, .int .i64 0, .int .i64 0]) (t := 47) ?hr ?_; (case hd => rfl); (case hg => rfl); (case hr => exact zhlgcp); intro gb102 hg w24 hbox hb; have n0_ := aa (below_step zjjbob hb); have n1_ := aa (hbox); have n2_ := aa ((zkpfjp : w.heap.size ≤ gb102)); have n3_ := aa ((zkpfjp : w.heap.size ≤ gb102)); clear HB; have HB := n0_; have BK102 := n1_; have GW102 := n2_; have GE102 := n3_; clear n0_ n1_ n2_ n3_; clear hb hbox hg; have hcz25_0 : w24.cell? ⟨gb102, 0, none⟩ = some (.string (⟨#[]⟩ : ByteArray)) := (blk_cell BK102.out 0).trans rfl; have hcz25_1 : w24.cell? ⟨gb102, 1, none⟩ = some (.int .i64 0) := (blk_cell BK102.out 1).trans rfl; have hcz25_2 : w24.cell? ⟨gb102, 2, none⟩ = some (.int .i64 0) := (blk_cell BK102.out 2).trans rfl; have hcz25_3 : w24.cell? ⟨gb102, 3, none⟩ = some (.int .i64 0) := (blk_cell BK102.out 3).trans rfl; have hcz25_4 : w24.cell? ⟨gb102, 4, none⟩ = some (.int .i64 0) := (blk_cell BK102.out 4).trans rfl; have hfz25_0 := blk_frozen BK102.out 0; have hfz25_1 := blk_frozen BK102.out 1; have hfz25_2 := blk_frozen BK102.out 2; have hfz25_3 := blk_frozen BK102.out 3; have hfz25_4 := blk_frozen BK102.out 4) | (go_at_call 70; (with_reducible refine (impl_nodeFault.calls k1 ((rd_T47 l0 x20_1).f0) ((rd_T47 l0 x20_1).f1) ((rd_T47 l0 x20_1).f2) ((rd_T47 l0 x20_1).f3) ((rd_T47 l0 x20_1).f4) t103 _ A6.out).mono ?_); rintro e w26 ⟨rfl, hb⟩; have n0_ := aa (blk_below (g := gb102) (o := .cells #[.string ((rd_T47 l0 x20_1).f0), .int .i64 ((rd_T47 l0 x20_1).f1), .int .i64 ((rd_T47 l0 x20_1).f2), .int .i64 ((rd_T47 l0 x20_1).f3), .int .i64 ((rd_T47 l0 x20_1).f4)] 47 (0, 0)) zojdgp hb); have n1_ := aa (below_step zndomn hb); clear BK102; clear HB; have BK102 := n0_; have HB := n1_; clear n0_ n1_; (try clear hb); (try clear hb2); (try clear hk); (try clear hi)))
        repeat (go_quiet (fail); try go_wp2)
        go_ret
        exact ⟨by first | rfl | (simp [errW_none, errW_some] <;> rfl) | (simp [*, errW_none, errW_some] <;> rfl), by repeat (first | (with_reducible first | exact HB.out | apply below_alloc | apply pw_below_drewN | apply below_drew1 | refine below_set ?_ GE102.out) | exact HB.out)⟩
      ·
       rw [if_neg c5] at H
       exact absurd H (by simp)
     ·
      rw [if_neg c4] at H
      exact absurd H (by simp)
    ·
     rw [if_neg c3] at H
     have c3b0 : decide (x20_1 < (l0.length : Int)) = false := decide_eq_false c3
     clear c3
     replace H := Option.bind_eq_some_iff.mp H
     obtain ⟨⟨t105, t106⟩, A270, H⟩ := H
     replace H : (if t106 = true then (if 0 < (l0.length : Int) then (if 1 ≤ (l0.length : Int) then ((some (l0.drop 1 : List (S47))).bind fun y108 => (impl_TreeFault.l1 k1 l0 (((rd_T47 l0 0).f3) != 0) y108 (y108.length : Int) 0)) else (none)) else (none)) else (some 4)) = some r := H
     have A27 := aa A270
     clear A270
     by_cases c28 : t106 = true
     ·
      subst c28
      have H1 : (if 0 < (l0.length : Int) then (if 1 ≤ (l0.length : Int) then ((some (l0.drop 1 : List (S47))).bind fun y108 => (impl_TreeFault.l1 k1 l0 (((rd_T47 l0 0).f3) != 0) y108 (y108.length : Int) 0)) else (none)) else (none)) = some r := by rw [if_pos rfl] at H; exact H
      clear H
      have H := H1
      clear H1
      by_cases c29 : 0 < (l0.length : Int)
      ·
       rw [if_pos c29] at H
       have c29b0 : decide (0 < (l0.length : Int)) = true := decide_eq_true c29
       have c29b1 : decide (0 < l0.length) = true := decide_eq_true (by omega)
       clear c29
       by_cases c30 : 1 ≤ (l0.length : Int)
       ·
        rw [if_pos c30] at H
        have c30b0 := eq_true c30
        have c30b1 : decide (1 ≤ (l0.length : Int)) = true := decide_eq_true c30
        clear c30
        obtain ⟨y108, hy108⟩ : ∃ y_ : List (S47), y_ = (l0.drop 1) := ⟨_, rfl⟩
        replace H : (impl_TreeFault.l1 k1 l0 (((rd_T47 l0 0).f3) != 0) y108 (y108.length : Int) 0) = some r := by first | (rw [hy108]; with_reducible exact H) | (have H2_ := (Option.bind_some _ _).symm.trans H; rw [hy108]; with_reducible exact H2_) | (have H2_ := (Option.bind_some _ _).symm.trans H; with_reducible exact H2_) | with_reducible exact H | (rw [hy108]; exact H) | exact H
        have Ny108 := aa hy108
        clear hy108
        have H' := aa H
        clear H
        go_wp2_with (first | (go_at_call 28; (with_reducible refine (impl_find.calls k1 _ _ l0 (⟨#[47]⟩ : ByteArray) t105 true _ ?side1 ?side2 A27.out).mono ?_); (case side1 => exact zfmbgg); (case side2 => exact HC0.out); rintro e w31 ⟨rfl, hb⟩; have n0_ := aa (below_step zjjbob hb); clear HB; have HB := n0_; clear n0_; (try clear hb); (try clear hb2); (try clear hk); (try clear hi); have p107 : 0 ≤ (0 : Int) := (by omega); have q107 : 0 < (l0.length : Int) := of_decide_eq_true zgglam; obtain ⟨ad107, e107, hx107_0, hx107_1, hx107_2, hx107_3, hx107_4⟩ := at_T47 HR0.out 0 p107 q107; cases e107; have qi107 : (0 < l0.length) = True := eq_true (by omega); (try rw [show ((0 : Int)).toNat = 0 from rfl] at hx107_0); (try rw [show 0 * 5 = 0 from rfl] at hx107_0); (try rw [Addr.add_zero'] at hx107_0); (try rw [show ((0 : Int)).toNat = 0 from rfl] at hx107_1); (try rw [show 0 * 5 = 0 from rfl] at hx107_1); (try rw [Addr.add_zero'] at hx107_1); (try rw [show ((0 : Int)).toNat = 0 from rfl] at hx107_2); (try rw [show 0 * 5 = 0 from rfl] at hx107_2); (try rw [Addr.add_zero'] at hx107_2); (try rw [show ((0 : Int)).toNat = 0 from rfl] at hx107_3); (try rw [show 0 * 5 = 0 from rfl] at hx107_3); (try rw [Addr.add_zero'] at hx107_3); (try rw [show ((0 : Int)).toNat = 0 from rfl] at hx107_4); (try rw [show 0 * 5 = 0 from rfl] at hx107_4); (try rw [Addr.add_zero'] at hx107_4); replace hx107_0 := pb HB.out hx107_0; replace hx107_1 := pb HB.out hx107_1; replace hx107_2 := pb HB.out hx107_2; replace hx107_3 := pb HB.out hx107_3; replace hx107_4 := pb HB.out hx107_4; replace p107 := eq_true p107; replace q107 := eq_true q107; have q32 : (1 : Int) ≤ ((l0.length : Int) : Int) := of_decide_eq_true zgglam; obtain ⟨i032, hi032, _, hsz32, _⟩ := info_parts info47; have hroom32 : l0.length ≤ c0 := HC0.out; have hC32 : Kd.C k47 _ (some ad107) l0.length l0 := HR0.out; have hcut32 := cut_from (P := Tryd.prog) 24 47 .i64 Tryd.underlying24 hi032 5 hsz32 (some ad107) l0.length c0 1 (by omega) q32; have hr32 := Kd.C_drop (m := (1 : Int).toNat) (c := c0) hC32 (by omega) hroom32; obtain ⟨A32, hA32⟩ : ∃ A1, A1 = (if c0 = (1 : Int).toNat then (some ad107) else ((some ad107) : Option Addr).map (·.add ((1 : Int).toNat * 5))) := ⟨_, rfl⟩; obtain ⟨c32, hc32⟩ : ∃ c1, c1 = c0 - (1 : Int).toNat := ⟨_, rfl⟩; have hy32 : y108.length = l0.length - (1 : Int).toNat := (by rw [Ny108.out, List.length_drop] <;> omega); rw [show (l0).drop (1 : Int).toNat = y108 from Ny108.out.symm] at hr32; replace hr32 : Kd.C k47 _ A32 y108.length y108 := (by rw [hA32]; exact hr32); rw [← hy32, ← hA32, ← hc32] at hcut32; have HR111 := aa hr32; have HC111 := aa (show y108.length ≤ c32 from by rw [hy32, hc32]; exact Nat.sub_le_sub_right hroom32 _); clear hr32 hC32 hroom32 hi032 hsz32 hc32; have KY32 := aa hy32; have KA32 := aa hA32; clear hy32 hA32; replace q32 := eq_true q32))
        repeat (go_quiet (fail); try go_wp2)
        go_loopg [8, 59] k1 (fun kq v8 v59 w' => ∃ (x8_2 : Bool) (x59_2 : Int), v8 = .bool x8_2 ∧ v59 = .int .i64 x59_2 ∧ Aside0 (impl_TreeFault.l1 kq l0 x8_2 y108 (y108.length : Int) x59_2 = some r) ∧ Aside0 (kq ≤ k1) ∧ Aside0 (Below w.heap.size w w'))
        case atStart => exact ⟨((((rd_T47 l0 0).f3) != 0)), (0), zagbkp, zagbkp, H', ⟨Nat.le_refl _⟩, ⟨by repeat (first | (with_reducible first | exact HB.out | apply below_alloc | apply pw_below_drewN | apply below_drew1) | exact HB.out)⟩⟩
        case round =>
         clear H'
         try clear c1
         try clear p1
         try clear q1
         try clear hx1
         try clear qi1
         try clear c2
         try clear c2b0
         try clear c2b1
         try clear p2
         try clear c3
         try clear c3b0
         try clear q3
         try clear c4
         try clear c4b0
         try clear c5
         try clear c5b0
         try clear p6
         try clear c7
         try clear c7b0
         try clear c7b1
         try clear c8
         try clear c8b0
         try clear c10
         try clear c10b0
         try clear p10
         try clear q10
         try clear hx10
         try clear qi10
         try clear c11
         try clear c11b0
         try clear c12
         try clear c12b0
         try clear c28
         try clear c29
         try clear c29b0
         try clear c29b1
         try clear c30
         try clear c30b0
         try clear c30b1
         try clear c32
         try clear q32
         try clear hcz14_0
         try clear hcz14_1
         try clear hcz14_2
         try clear hcz14_3
         try clear hcz14_4
         try clear hcz16_0
         try clear hcz16_1
         try clear hcz16_2
         try clear hcz16_3
         try clear hcz16_4
         try clear hcz18_0
         try clear hcz18_1
         try clear hcz18_2
         try clear hcz18_3
         try clear hcz18_4
         try clear hcz20_0
         try clear hcz20_1
         try clear hcz20_2
         try clear hcz20_3
         try clear hcz20_4
         try clear hcz22_0
         try clear hcz22_1
         try clear hcz22_2
         try clear hcz22_3
         try clear hcz22_4
         try clear hcz25_0
         try clear hcz25_1
         try clear hcz25_2
         try clear hcz25_3
         try clear hcz25_4
         try clear hfz14_0
         try clear hfz14_1
         try clear hfz14_2
         try clear hfz14_3
         try clear hfz14_4
         try clear hfz16_0
         try clear hfz16_1
         try clear hfz16_2
         try clear hfz16_3
         try clear hfz16_4
         try clear hfz18_0
         try clear hfz18_1
         try clear hfz18_2
         try clear hfz18_3
         try clear hfz18_4
         try clear hfz20_0
         try clear hfz20_1
         try clear hfz20_2
         try clear hfz20_3
         try clear hfz20_4
         try clear hfz22_0
         try clear hfz22_1
         try clear hfz22_2
         try clear hfz22_3
         try clear hfz22_4
         try clear hfz25_0
         try clear hfz25_1
         try clear hfz25_2
         try clear hfz25_3
         try clear hfz25_4
         try clear hx101_0
         try clear hx101_1
         try clear hx101_2
         try clear hx101_3
         try clear hx101_4
         try clear hx104_0
         try clear hx104_1
         try clear hx104_2
         try clear hx104_3
         try clear hx104_4
         try clear hx107_0
         try clear hx107_1
         try clear hx107_2
         try clear hx107_3
         try clear hx107_4
         try clear p101
         try clear p104
         try clear p107
         try clear p2
         try clear q101
         try clear q104
         try clear q107
         try clear q32
         obtain ⟨x8_2, x59_2, rfl, rfl, HA, HK2, HB⟩ := hrel
         cases gk with
         | zero => exact absurd HA.out (by simp [impl_TreeFault.l1])
         | succ k2 =>
          have H := HA.out
          clear HA
          simp only [impl_TreeFault.l1] at H
          by_cases c33 : x59_2 < (y108.length : Int)
          ·
           rw [if_pos c33] at H
           have c33b0 : decide (x59_2 < (y108.length : Int)) = true := decide_eq_true c33
           clear c33
           by_cases c34 : 0 ≤ x59_2
           ·
            rw [if_pos c34] at H
            have c34b0 : decide (0 ≤ x59_2) = true := decide_eq_true c34
            clear c34
            by_cases c35 : x59_2 < (y108.length : Int)
            ·
             rw [if_pos c35] at H
             have c35b0 : decide (x59_2 < (y108.length : Int)) = true := decide_eq_true c35
             clear c35
             replace H := Option.bind_eq_some_iff.mp H
             obtain ⟨⟨t114, t115⟩, A360, H⟩ := H
             replace H : ((impl_find.f k2 l0 t114).bind fun bt116 => (if bt116.2 = true then (if x8_2 = true then (impl_TreeFault.l1 k2 l0 true y108 (y108.length : Int) (wrap64 (x59_2 + 1))) else (if 0 ≤ bt116.1 then (if bt116.1 < (l0.length : Int) then (impl_TreeFault.l1 k2 l0 (((rd_T47 l0 bt116.1).f3) != 0) y108 (y108.length : Int) (wrap64 (x59_2 + 1))) else (none)) else (none))) else (some 4))) = some r := H
             have A36 := aa A360
             clear A360
             replace H := Option.bind_eq_some_iff.mp H
             obtain ⟨⟨t116, t117⟩, A370, H⟩ := H
             replace H : (if t117 = true then (if x8_2 = true then (impl_TreeFault.l1 k2 l0 true y108 (y108.length : Int) (wrap64 (x59_2 + 1))) else (if 0 ≤ t116 then (if t116 < (l0.length : Int) then (impl_TreeFault.l1 k2 l0 (((rd_T47 l0 t116).f3) != 0) y108 (y108.length : Int) (wrap64 (x59_2 + 1))) else (none)) else (none))) else (some 4)) = some r := H
             have A37 := aa A370
             clear A370
             by_cases c38 : t117 = true
             ·
              subst c38
              have H1 : (if x8_2 = true then (impl_TreeFault.l1 k2 l0 true y108 (y108.length : Int) (wrap64 (x59_2 + 1))) else (if 0 ≤ t116 then (if t116 < (l0.length : Int) then (impl_TreeFault.l1 k2 l0 (((rd_T47 l0 t116).f3) != 0) y108 (y108.length : Int) (wrap64 (x59_2 + 1))) else (none)) else (none))) = some r := by rw [if_pos rfl] at H; exact H
              clear H
              have H := H1
              clear H1
              by_cases c39 : x8_2 = true
              ·
               subst c39
               have H1 : (impl_TreeFault.l1 k2 l0 true y108 (y108.length : Int) (wrap64 (x59_2 + 1))) = some r := by rw [if_pos rfl] at H; exact H
               clear H
               have H := H1
               clear H1
               have H' := aa H
               clear H
               have p112 : 0 ≤ (x59_2 : Int) := of_decide_eq_true zgglam
               have q112 : x59_2 < (y108.length : Int) := of_decide_eq_true zgglam
               obtain ⟨ad112, e112, hx112_0, hx112_1, hx112_2, hx112_3, hx112_4⟩ := at_T47 HR111.out x59_2 p112 q112
               cases e112
               replace hx112_0 := pb HB.out hx112_0
               replace hx112_1 := pb HB.out hx112_1
               replace hx112_2 := pb HB.out hx112_2
               replace hx112_3 := pb HB.out hx112_3
               replace hx112_4 := pb HB.out hx112_4
               replace p112 := eq_true p112
               replace q112 := eq_true q112
               go_wp2_with (first | ((with_reducible refine gate_dst (N := 10) rfl ?_); refine box_event ?hg (N := 10) ?hd (cs := #[.string (⟨#[]⟩ : ByteArray), .int .i64 0, .int .i64 0, .int .i64 0, .int .i64 0]) (t := 47) ?hr ?_; (case hd => rfl); (case hg => rfl); (case hr => exact zhlgcp); intro gb113 hg w40 hbox hb; have n0_ := aa (below_step zjjbob hb); have n1_ := aa (hbox); have n2_ := aa ((zkpfjp : w.heap.size ≤ gb113)); have n3_ := aa ((zkpfjp : w.heap.size ≤ gb113)); clear HB; have HB := n0_; have BK113 := n1_; have GW113 := n2_; have GE113 := n3_; clear n0_ n1_ n2_ n3_; clear hb hbox hg; have hcz41_0 : w40.cell? ⟨gb113, 0, none⟩ = some (.string (⟨#[]⟩ : ByteArray)) := (blk_cell BK113.out 0).trans rfl; have hcz41_1 : w40.cell? ⟨gb113, 1, none⟩ = some (.int .i64 0) := (blk_cell BK113.out 1).trans rfl; have hcz41_2 : w40.cell? ⟨gb113, 2, none⟩ = some (.int .i64 0) := (blk_cell BK113.out 2).trans rfl; have hcz41_3 : w40.cell? ⟨gb113, 3, none⟩ = some (.int .i64 0) := (blk_cell BK113.out 3).trans rfl; have hcz41_4 : w40.cell? ⟨gb113, 4, none⟩ = some (.int .i64 0) := (blk_cell BK113.out 4).trans rfl; have hfz41_0 := blk_frozen BK113.out 0; have hfz41_1 := blk_frozen BK113.out 1; have hfz41_2 := blk_frozen BK113.out 2; have hfz41_3 := blk_frozen BK113.out 3; have hfz41_4 := blk_frozen BK113.out 4) | (go_at_call 39; (with_reducible refine (impl_parted.calls k2 ((rd_T47 y108 x59_2).f0) t114 t115 _ A36.out).mono ?_); rintro e w42 ⟨rfl, hb⟩; have n0_ := aa (blk_below (g := gb113) (o := .cells #[.string ((rd_T47 y108 x59_2).f0), .int .i64 ((rd_T47 y108 x59_2).f1), .int .i64 ((rd_T47 y108 x59_2).f2), .int .i64 ((rd_T47 y108 x59_2).f3), .int .i64 ((rd_T47 y108 x59_2).f4)] 47 (0, 0)) zdlibc hb); have n1_ := aa (below_step zaooek hb); clear BK113; clear HB; have BK113 := n0_; have HB := n1_; clear n0_ n1_; (try clear hb); (try clear hb2); (try clear hk); (try clear hi)) | (go_at_call 28; (with_reducible refine (impl_find.calls k2 _ _ l0 t114 t116 true _ ?side1 ?side2 A37.out).mono ?_); (case side1 => exact zfmbgg); (case side2 => exact HC0.out); rintro e w43 ⟨rfl, hb⟩; have n0_ := aa (blk_below (g := gb113) (o := .cells #[.string ((rd_T47 y108 x59_2).f0), .int .i64 ((rd_T47 y108 x59_2).f1), .int .i64 ((rd_T47 y108 x59_2).f2), .int .i64 ((rd_T47 y108 x59_2).f3), .int .i64 ((rd_T47 y108 x59_2).f4)] 47 (0, 0)) (zkjhpm BK113.out) hb); have n1_ := aa (below_step zaooek hb); clear BK113; clear HB; have BK113 := n0_; have HB := n1_; clear n0_ n1_; (try clear hb); (try clear hb2); (try clear hk); (try clear hi)))
               repeat (go_quiet (fail); try go_wp2)
               go_roundg k2
               case measure => have := HK1.out; have := HK2.out; omega
               case rel => exact ⟨(true), (wrap64 (x59_2 + 1)), zagbkp, zagbkp, H', ⟨by have := HK1.out; have := HK2.out; omega⟩, ⟨by repeat (first | (with_reducible first | exact HB.out | apply below_alloc | apply pw_below_drewN | apply below_drew1 | refine below_set ?_ GE113.out) | exact HB.out)⟩⟩
              ·
               replace c39 := Bool.eq_false_iff.mpr c39
               subst c39
               have H1 : (if 0 ≤ t116 then (if t116 < (l0.length : Int) then (impl_TreeFault.l1 k2 l0 (((rd_T47 l0 t116).f3) != 0) y108 (y108.length : Int) (wrap64 (x59_2 + 1))) else (none)) else (none)) = some r := by rw [if_neg (show ¬ (false = true) by decide)] at H; exact H
               clear H
               have H := H1
               clear H1
               by_cases c44 : 0 ≤ t116
               ·
                rw [if_pos c44] at H
                have c44b0 : decide (0 ≤ t116) = true := decide_eq_true c44
                clear c44
                by_cases c45 : t116 < (l0.length : Int)
                ·
                 rw [if_pos c45] at H
                 have c45b0 : decide (t116 < (l0.length : Int)) = true := decide_eq_true c45
                 clear c45
                 have H' := aa H
                 clear H
                 have p112 : 0 ≤ (x59_2 : Int) := of_decide_eq_true zgglam
                 have q112 : x59_2 < (y108.length : Int) := of_decide_eq_true zgglam
                 obtain ⟨ad112, e112, hx112_0, hx112_1, hx112_2, hx112_3, hx112_4⟩ := at_T47 HR111.out x59_2 p112 q112
                 cases e112
                 replace hx112_0 := pb HB.out hx112_0
                 replace hx112_1 := pb HB.out hx112_1
                 replace hx112_2 := pb HB.out hx112_2
                 replace hx112_3 := pb HB.out hx112_3
                 replace hx112_4 := pb HB.out hx112_4
                 replace p112 := eq_true p112
                 replace q112 := eq_true q112
                 go_wp2_with (first | ((with_reducible refine gate_dst (N := 10) rfl ?_); refine box_event ?hg (N := 10) ?hd (cs := #[.string (⟨#[]⟩ : ByteArray), .int .i64 0, .int .i64 0, .int .i64 0, .int .i64 0]) (t := 47) ?hr ?_; (case hd => rfl); (case hg => rfl); (case hr => exact zhlgcp); intro gb113 hg w46 hbox hb; have n0_ := aa (below_step zjjbob hb); have n1_ := aa (hbox); have n2_ := aa ((zkpfjp : w.heap.size ≤ gb113)); have n3_ := aa ((zkpfjp : w.heap.size ≤ gb113)); clear HB; have HB := n0_; have BK113 := n1_; have GW113 := n2_; have GE113 := n3_; clear n0_ n1_ n2_ n3_; clear hb hbox hg; have hcz47_0 : w46.cell? ⟨gb113, 0, none⟩ = some (.string (⟨#[]⟩ : ByteArray)) := (blk_cell BK113.out 0).trans rfl; have hcz47_1 : w46.cell? ⟨gb113, 1, none⟩ = some (.int .i64 0) := (blk_cell BK113.out 1).trans rfl; have hcz47_2 : w46.cell? ⟨gb113, 2, none⟩ = some (.int .i64 0) := (blk_cell BK113.out 2).trans rfl; have hcz47_3 : w46.cell? ⟨gb113, 3, none⟩ = some (.int .i64 0) := (blk_cell BK113.out 3).trans rfl; have hcz47_4 : w46.cell? ⟨gb113, 4, none⟩ = some (.int .i64 0) := (blk_cell BK113.out 4).trans rfl; have hfz47_0 := blk_frozen BK113.out 0; have hfz47_1 := blk_frozen BK113.out 1; have hfz47_2 := blk_frozen BK113.out 2; have hfz47_3 := blk_frozen BK113.out 3; have hfz47_4 := blk_frozen BK113.out 4) | (go_at_call 39; (with_reducible refine (impl_parted.calls k2 ((rd_T47 y108 x59_2).f0) t114 t115 _ A36.out).mono ?_); rintro e w48 ⟨rfl, hb⟩; have n0_ := aa (blk_below (g := gb113) (o := .cells #[.string ((rd_T47 y108 x59_2).f0), .int .i64 ((rd_T47 y108 x59_2).f1), .int .i64 ((rd_T47 y108 x59_2).f2), .int .i64 ((rd_T47 y108 x59_2).f3), .int .i64 ((rd_T47 y108 x59_2).f4)] 47 (0, 0)) zdlibc hb); have n1_ := aa (below_step zaooek hb); clear BK113; clear HB; have BK113 := n0_; have HB := n1_; clear n0_ n1_; (try clear hb); (try clear hb2); (try clear hk); (try clear hi)) | (go_at_call 28; (with_reducible refine (impl_find.calls k2 _ _ l0 t114 t116 true _ ?side1 ?side2 A37.out).mono ?_); (case side1 => exact zfmbgg); (case side2 => exact HC0.out); rintro e w49 ⟨rfl, hb⟩; have n0_ := aa (blk_below (g := gb113) (o := .cells #[.string ((rd_T47 y108 x59_2).f0), .int .i64 ((rd_T47 y108 x59_2).f1), .int .i64 ((rd_T47 y108 x59_2).f2), .int .i64 ((rd_T47 y108 x59_2).f3), .int .i64 ((rd_T47 y108 x59_2).f4)] 47 (0, 0)) (zkjhpm BK113.out) hb); have n1_ := aa (below_step zaooek hb); clear BK113; clear HB; have BK113 := n0_; have HB := n1_; clear n0_ n1_; (try clear hb); (try clear hb2); (try clear hk); (try clear hi); have p118 : 0 ≤ (t116 : Int) := of_decide_eq_true zgglam; have q118 : t116 < (l0.length : Int) := of_decide_eq_true zgglam; obtain ⟨ad118, e118, hx118_0, hx118_1, hx118_2, hx118_3, hx118_4⟩ := at_T47 HR0.out t116 p118 q118; obtain rfl : ad107 = ad118 := (by injection e118); replace hx118_0 := pb HB.out hx118_0; replace hx118_1 := pb HB.out hx118_1; replace hx118_2 := pb HB.out hx118_2; replace hx118_3 := pb HB.out hx118_3; replace hx118_4 := pb HB.out hx118_4; replace p118 := eq_true p118; replace q118 := eq_true q118))
                 repeat (go_quiet (fail); try go_wp2)
                 go_roundg k2
                 case measure => have := HK1.out; have := HK2.out; omega
                 case rel => exact ⟨((((rd_T47 l0 t116).f3) != 0)), (wrap64 (x59_2 + 1)), zagbkp, zagbkp, H', ⟨by have := HK1.out; have := HK2.out; omega⟩, ⟨by repeat (first | (with_reducible first | exact HB.out | apply below_alloc | apply pw_below_drewN | apply below_drew1 | refine below_set ?_ GE113.out) | exact HB.out)⟩⟩
                ·
                 rw [if_neg c45] at H
                 exact absurd H (by simp)
               ·
                rw [if_neg c44] at H
                exact absurd H (by simp)
             ·
              replace c38 := Bool.eq_false_iff.mpr c38
              subst c38
              have H1 : (some 4) = some r := by rw [if_neg (show ¬ (false = true) by decide)] at H; exact H
              clear H
              have H := H1
              clear H1
              obtain rfl := Option.some.inj H
              have p112 : 0 ≤ (x59_2 : Int) := of_decide_eq_true zgglam
              have q112 : x59_2 < (y108.length : Int) := of_decide_eq_true zgglam
              obtain ⟨ad112, e112, hx112_0, hx112_1, hx112_2, hx112_3, hx112_4⟩ := at_T47 HR111.out x59_2 p112 q112
              cases e112
              replace hx112_0 := pb HB.out hx112_0
              replace hx112_1 := pb HB.out hx112_1
              replace hx112_2 := pb HB.out hx112_2
              replace hx112_3 := pb HB.out hx112_3
              replace hx112_4 := pb HB.out hx112_4
              replace p112 := eq_true p112
              replace q112 := eq_true q112
              go_wp2_with (first | ((with_reducible refine gate_dst (N := 10) rfl ?_); refine box_event ?hg (N := 10) ?hd (cs := #[.string (⟨#[]⟩ : ByteArray), .int .i64 0, .int .i64 0, .int .i64 0, .int .i64 0]) (t := 47) ?hr ?_; (case hd => rfl); (case hg => rfl); (case hr => exact zhlgcp); intro gb113 hg w50 hbox hb; have n0_ := aa (below_step zjjbob hb); have n1_ := aa (hbox); have n2_ := aa ((zkpfjp : w.heap.size ≤ gb113)); have n3_ := aa ((zkpfjp : w.heap.size ≤ gb113)); clear HB; have HB := n0_; have BK113 := n1_; have GW113 := n2_; have GE113 := n3_; clear n0_ n1_ n2_ n3_; clear hb hbox hg; have hcz51_0 : w50.cell? ⟨gb113, 0, none⟩ = some (.string (⟨#[]⟩ : ByteArray)) := (blk_cell BK113.out 0).trans rfl; have hcz51_1 : w50.cell? ⟨gb113, 1, none⟩ = some (.int .i64 0) := (blk_cell BK113.out 1).trans rfl; have hcz51_2 : w50.cell? ⟨gb113, 2, none⟩ = some (.int .i64 0) := (blk_cell BK113.out 2).trans rfl; have hcz51_3 : w50.cell? ⟨gb113, 3, none⟩ = some (.int .i64 0) := (blk_cell BK113.out 3).trans rfl; have hcz51_4 : w50.cell? ⟨gb113, 4, none⟩ = some (.int .i64 0) := (blk_cell BK113.out 4).trans rfl; have hfz51_0 := blk_frozen BK113.out 0; have hfz51_1 := blk_frozen BK113.out 1; have hfz51_2 := blk_frozen BK113.out 2; have hfz51_3 := blk_frozen BK113.out 3; have hfz51_4 := blk_frozen BK113.out 4) | (go_at_call 39; (with_reducible refine (impl_parted.calls k2 ((rd_T47 y108 x59_2).f0) t114 t115 _ A36.out).mono ?_); rintro e w52 ⟨rfl, hb⟩; have n0_ := aa (blk_below (g := gb113) (o := .cells #[.string ((rd_T47 y108 x59_2).f0), .int .i64 ((rd_T47 y108 x59_2).f1), .int .i64 ((rd_T47 y108 x59_2).f2), .int .i64 ((rd_T47 y108 x59_2).f3), .int .i64 ((rd_T47 y108 x59_2).f4)] 47 (0, 0)) zdlibc hb); have n1_ := aa (below_step zaooek hb); clear BK113; clear HB; have BK113 := n0_; have HB := n1_; clear n0_ n1_; (try clear hb); (try clear hb2); (try clear hk); (try clear hi)) | (go_at_call 28; (with_reducible refine (impl_find.calls k2 _ _ l0 t114 t116 false _ ?side1 ?side2 A37.out).mono ?_); (case side1 => exact zfmbgg); (case side2 => exact HC0.out); rintro e w53 ⟨rfl, hb⟩; have n0_ := aa (blk_below (g := gb113) (o := .cells #[.string ((rd_T47 y108 x59_2).f0), .int .i64 ((rd_T47 y108 x59_2).f1), .int .i64 ((rd_T47 y108 x59_2).f2), .int .i64 ((rd_T47 y108 x59_2).f3), .int .i64 ((rd_T47 y108 x59_2).f4)] 47 (0, 0)) (zkjhpm BK113.out) hb); have n1_ := aa (below_step zaooek hb); clear BK113; clear HB; have BK113 := n0_; have HB := n1_; clear n0_ n1_; (try clear hb); (try clear hb2); (try clear hk); (try clear hi)))
              repeat (go_quiet (fail); try go_wp2)
              go_ret
              exact ⟨by first | rfl | (simp [errW_none, errW_some] <;> rfl) | (simp [*, errW_none, errW_some] <;> rfl), by repeat (first | (with_reducible first | exact HB.out | apply below_alloc | apply pw_below_drewN | apply below_drew1 | refine below_set ?_ GE113.out) | exact HB.out)⟩
            ·
             rw [if_neg c35] at H
             exact absurd H (by simp)
           ·
            rw [if_neg c34] at H
            exact absurd H (by simp)
          ·
           rw [if_neg c33] at H
           have c33b0 : decide (x59_2 < (y108.length : Int)) = false := decide_eq_false c33
           clear c33
           by_cases c54 : x8_2 = true
           ·
            subst c54
            have H1 : (some 1) = some r := by rw [if_pos rfl] at H; exact H
            clear H
            have H := H1
            clear H1
            obtain rfl := Option.some.inj H
            go_wp2
            repeat (go_quiet (fail); try go_wp2)
            go_ret
            exact ⟨by first | rfl | (simp [errW_none, errW_some] <;> rfl) | (simp [*, errW_none, errW_some] <;> rfl), by repeat (first | (with_reducible first | exact HB.out | apply below_alloc | apply pw_below_drewN | apply below_drew1) | exact HB.out)⟩
           ·
            replace c54 := Bool.eq_false_iff.mpr c54
            subst c54
            have H1 : (some 0) = some r := by rw [if_neg (show ¬ (false = true) by decide)] at H; exact H
            clear H
            have H := H1
            clear H1
            obtain rfl := Option.some.inj H
            go_wp2
            repeat (go_quiet (fail); try go_wp2)
            go_ret
            exact ⟨by first | rfl | (simp [errW_none, errW_some] <;> rfl) | (simp [*, errW_none, errW_some] <;> rfl), by repeat (first | (with_reducible first | exact HB.out | apply below_alloc | apply pw_below_drewN | apply below_drew1) | exact HB.out)⟩
       ·
        rw [if_neg c30] at H
        exact absurd H (by simp)
      ·
       rw [if_neg c29] at H
       exact absurd H (by simp)
     ·
      replace c28 := Bool.eq_false_iff.mpr c28
      subst c28
      have H1 : (some 4) = some r := by rw [if_neg (show ¬ (false = true) by decide)] at H; exact H
      clear H
      have H := H1
      clear H1
      obtain rfl := Option.some.inj H
      go_wp2_with (first | (go_at_call 28; (with_reducible refine (impl_find.calls k1 _ _ l0 (⟨#[47]⟩ : ByteArray) t105 false _ ?side1 ?side2 A27.out).mono ?_); (case side1 => exact zfmbgg); (case side2 => exact HC0.out); rintro e w55 ⟨rfl, hb⟩; have n0_ := aa (below_step zjjbob hb); clear HB; have HB := n0_; clear n0_; (try clear hb); (try clear hb2); (try clear hk); (try clear hi)))
      repeat (go_quiet (fail); try go_wp2)
      go_ret
      exact ⟨by first | rfl | (simp [errW_none, errW_some] <;> rfl) | (simp [*, errW_none, errW_some] <;> rfl), by repeat (first | (with_reducible first | exact HB.out | apply below_alloc | apply pw_below_drewN | apply below_drew1) | exact HB.out)⟩

end Go.Proofs.YthdddcegopgopaaDoor.Qa

-- By gp.py (wip/gen of the work's repo), a program of this workplace over the kit's print: Lean checks it.
namespace Go.Proofs.YthdddcegopgopaaDoor.Qa
open Go.RowKit Go.Proofs.YthdddcegopgopaaDoorW.PrintWords Go.Proofs.YthdddcegopgopaaDoorW.PrintLast Go.Proofs.YthdddcegopgopaaDoorW.PrintMore
attribute [local go_sem] max2_int min2_int max_two min_two max_three min_three max_four min_four   -- for this text's walks alone
set_option linter.unusedVariables false
set_option linter.unusedSimpArgs false
set_option maxHeartbeats 8000000
set_option maxRecDepth 100000

/-! ### impl_zCode: function 27 -/
def impl_zCode.f (k : Nat) (l0 : List (S47)) (a1 : ByteArray) : Option (Int) := (impl_TreeFault.f k l0).bind fun t101 => (if t101 = 0 then ((impl_PathFault.f k a1).bind fun t102 => (some t102)) else (some t101))
theorem impl_zCode.mono : ∀ a0 a1 k, LeO (impl_zCode.f k a0 a1) (impl_zCode.f (k + 1) a0 a1) := by
 intro a0 a1 k
 unfold impl_zCode.f
 repeat' first
   | (with_reducible exact impl_PathFault.mono _ _)
   | (with_reducible exact impl_TreeFault.mono _ _)
   | (with_reducible exact LeO.refl _)
   | (with_reducible exact LeO.none _)
   | (with_reducible refine LeO.ite ?_ ?_)
   | (with_reducible refine LeO.bind ?_ (fun _ => ?_))
   | exact impl_PathFault.mono _ _
   | exact impl_TreeFault.mono _ _
   | exact LeO.none _
   | refine LeO.ite ?_ ?_
   | refine LeO.bind ?_ (fun _ => ?_)
theorem impl_zCode.calls (k : Nat) (A0 : Option Addr) (c0 : Nat) (l0 : List (S47)) (a1 : ByteArray) (r : Int) (w : World) (hr0 : Kd.C k47 w A0 l0.length l0) (hc0 : l0.length ≤ c0) (h : impl_zCode.f k l0 a1 = some r) :
  Calls Tryd.prog 27 #[.slice A0 l0.length c0, .string a1] w fun e w' => e = .returned (.int .i64 r) ∧ Below w.heap.size w w' := by
 have HR0 := aa hr0
 have HC0 := aa hc0
 clear hr0 hc0
 have HB := aa (Below.refl w.heap.size w)
 have H : ((impl_TreeFault.f k l0).bind fun t101 => (if t101 = 0 then ((impl_PathFault.f k a1).bind fun t102 => (some t102)) else (some t101))) = some r := h
 clear h
 replace H := Option.bind_eq_some_iff.mp H
 obtain ⟨t101, A30, H⟩ := H
 replace H : (if t101 = 0 then ((impl_PathFault.f k a1).bind fun t102 => (some t102)) else (some t101)) = some r := H
 have A3 := aa A30
 clear A30
 by_cases c4 : t101 = 0
 ·
  rw [if_pos c4] at H
  have c4b0 : (t101 == 0) = true := beq_iff_eq.mpr c4
  have c4b1 : (t101 != 0) = false := bne_eq_false_iff_eq.mpr c4
  clear c4
  replace H := Option.bind_eq_some_iff.mp H
  obtain ⟨t102, A50, H⟩ := H
  replace H : (some t102) = some r := H
  have A5 := aa A50
  clear A50
  obtain rfl := Option.some.inj H
  go_enter Tryd.func27, Tryd.ntmps27
  go_wp2_with (first | ((with_reducible refine gate_callee (f := 46) rfl ?_); refine goesL_ (some 7) rfl rfl Tryd.func46 (by kernel_rfl) rfl #[.slice A0 l0.length c0] rfl zjnmae ?_; (with_reducible refine (impl_TreeFault.calls k _ _ l0 t101 _ ?side1 ?side2 A3.out).mono ?_); (case side1 => exact zebgon); (case side2 => exact HC0.out); rintro e w6 ⟨rfl, hb⟩; refine ⟨_, rfl, ?_⟩; have n0_ := aa (below_step zjjbob hb); clear HB; have HB := n0_; clear n0_; (try clear hb); (try clear hb2); (try clear hk); (try clear hi)) | ((with_reducible refine gate_callee (f := 42) rfl ?_); refine goesL_ (some 12) rfl rfl Tryd.func42 (by kernel_rfl) rfl #[.string a1] rfl zjnmae ?_; (with_reducible refine (impl_PathFault.calls k a1 t102 _ A5.out).mono ?_); rintro e w7 ⟨rfl, hb⟩; refine ⟨_, rfl, ?_⟩; have n0_ := aa (below_step zjjbob hb); clear HB; have HB := n0_; clear n0_; (try clear hb); (try clear hb2); (try clear hk); (try clear hi)))
  go_ret
  exact ⟨by first | rfl | (simp [errW_none, errW_some] <;> rfl) | (simp [*, errW_none, errW_some] <;> rfl), by repeat (first | (with_reducible first | exact HB.out | apply below_alloc | apply pw_below_drewN | apply below_drew1) | exact HB.out)⟩
 ·
  rw [if_neg c4] at H
  have c4b0 : (t101 == 0) = false := beq_eq_false_iff_ne.mpr c4
  have c4b1 : (t101 != 0) = true := bne_iff_ne.mpr c4
  obtain rfl := Option.some.inj H
  go_enter Tryd.func27, Tryd.ntmps27
  go_wp2_with (first | ((with_reducible refine gate_callee (f := 46) rfl ?_); refine goesL_ (some 7) rfl rfl Tryd.func46 (by kernel_rfl) rfl #[.slice A0 l0.length c0] rfl zjnmae ?_; (with_reducible refine (impl_TreeFault.calls k _ _ l0 t101 _ ?side1 ?side2 A3.out).mono ?_); (case side1 => exact zebgon); (case side2 => exact HC0.out); rintro e w8 ⟨rfl, hb⟩; refine ⟨_, rfl, ?_⟩; have n0_ := aa (below_step zjjbob hb); clear HB; have HB := n0_; clear n0_; (try clear hb); (try clear hb2); (try clear hk); (try clear hi)))
  go_ret
  exact ⟨by first | rfl | (simp [errW_none, errW_some] <;> rfl) | (simp [*, errW_none, errW_some] <;> rfl), by repeat (first | (with_reducible first | exact HB.out | apply below_alloc | apply pw_below_drewN | apply below_drew1) | exact HB.out)⟩

end Go.Proofs.YthdddcegopgopaaDoor.Qa

-- By gp.py (wip/gen of the work's repo), a program of this workplace over the kit's print: Lean checks it.
namespace Go.Proofs.YthdddcegopgopaaDoor.Qa
open Go.RowKit Go.Proofs.YthdddcegopgopaaDoorW.PrintWords Go.Proofs.YthdddcegopgopaaDoorW.PrintLast Go.Proofs.YthdddcegopgopaaDoorW.PrintMore
attribute [local go_sem] max2_int min2_int max_two min_two max_three min_three max_four min_four   -- for this text's walks alone
set_option linter.unusedVariables false
set_option linter.unusedSimpArgs false
set_option maxHeartbeats 8000000
set_option maxRecDepth 100000

/-! ### impl_isVersion: function 29 -/
def impl_isVersion.f (a0 : Int) (a1_0 : ByteArray) (a1_1 : Int) (a1_2 : Int) (a1_3 : Int) (a1_4 : Int) : Option (Bool) := if a0 = (-1) then (some true) else (some (a0 == a1_2))
theorem impl_isVersion.calls (a0 : Int) (a1_0 : ByteArray) (a1_1 : Int) (a1_2 : Int) (a1_3 : Int) (a1_4 : Int) (r : Bool) (w : World) (h : impl_isVersion.f a0 a1_0 a1_1 a1_2 a1_3 a1_4 = some r) :
  Calls Tryd.prog 29 #[.int .i64 a0, .agg #[.string a1_0, .int .i64 a1_1, .int .i64 a1_2, .int .i64 a1_3, .int .i64 a1_4]] w fun e w' => e = .returned (.bool r) ∧ Below w.heap.size w w' := by
 have hu47 := Tryd.underlying47
 have HB := aa (Below.refl w.heap.size w)
 have H : (if a0 = (-1) then (some true) else (some (a0 == a1_2))) = some r := h
 clear h
 by_cases c3 : a0 = (-1)
 ·
  rw [if_pos c3] at H
  have c3b0 : (a0 == (-1)) = true := beq_iff_eq.mpr c3
  have c3b1 : (a0 != (-1)) = false := bne_eq_false_iff_eq.mpr c3
  clear c3
  obtain rfl := Option.some.inj H
  go_enter Tryd.func29, Tryd.ntmps29
  go_wp2_with (first | ((with_reducible refine gate_dst (N := 3) rfl ?_); refine box_event ?hg (N := 3) ?hd (cs := #[.string a1_0, .int .i64 a1_1, .int .i64 a1_2, .int .i64 a1_3, .int .i64 a1_4]) (t := 47) ?hr ?_; (case hd => rfl); (case hg => rfl); (case hr => exact zhlgcp); intro gb101 hg w4 hbox hb; have n0_ := aa (below_step zjjbob hb); have n1_ := aa (hbox); have n2_ := aa ((zkpfjp : w.heap.size ≤ gb101)); have n3_ := aa ((zkpfjp : w.heap.size ≤ gb101)); clear HB; have HB := n0_; have BK101 := n1_; have GW101 := n2_; have GE101 := n3_; clear n0_ n1_ n2_ n3_; clear hb hbox hg))
  go_ret
  exact ⟨by first | rfl | (simp [errW_none, errW_some] <;> rfl) | (simp [*, errW_none, errW_some] <;> rfl), by repeat (first | (with_reducible first | exact HB.out | apply below_alloc | apply pw_below_drewN | apply below_drew1 | refine below_set ?_ GE101.out) | exact HB.out)⟩
 ·
  rw [if_neg c3] at H
  have c3b0 : (a0 == (-1)) = false := beq_eq_false_iff_ne.mpr c3
  have c3b1 : (a0 != (-1)) = true := bne_iff_ne.mpr c3
  obtain rfl := Option.some.inj H
  go_enter Tryd.func29, Tryd.ntmps29
  go_wp2_with (first | ((with_reducible refine gate_dst (N := 3) rfl ?_); refine box_event ?hg (N := 3) ?hd (cs := #[.string a1_0, .int .i64 a1_1, .int .i64 a1_2, .int .i64 a1_3, .int .i64 a1_4]) (t := 47) ?hr ?_; (case hd => rfl); (case hg => rfl); (case hr => exact zhlgcp); intro gb101 hg w5 hbox hb; have n0_ := aa (below_step zjjbob hb); have n1_ := aa (hbox); have n2_ := aa ((zkpfjp : w.heap.size ≤ gb101)); have n3_ := aa ((zkpfjp : w.heap.size ≤ gb101)); clear HB; have HB := n0_; have BK101 := n1_; have GW101 := n2_; have GE101 := n3_; clear n0_ n1_ n2_ n3_; clear hb hbox hg; have hcz6_0 : w5.cell? ⟨gb101, 0, none⟩ = some (.string a1_0) := (blk_cell BK101.out 0).trans rfl; have hcz6_1 : w5.cell? ⟨gb101, 1, none⟩ = some (.int .i64 a1_1) := (blk_cell BK101.out 1).trans rfl; have hcz6_2 : w5.cell? ⟨gb101, 2, none⟩ = some (.int .i64 a1_2) := (blk_cell BK101.out 2).trans rfl; have hcz6_3 : w5.cell? ⟨gb101, 3, none⟩ = some (.int .i64 a1_3) := (blk_cell BK101.out 3).trans rfl; have hcz6_4 : w5.cell? ⟨gb101, 4, none⟩ = some (.int .i64 a1_4) := (blk_cell BK101.out 4).trans rfl; have hfz6_0 := blk_frozen BK101.out 0; have hfz6_1 := blk_frozen BK101.out 1; have hfz6_2 := blk_frozen BK101.out 2; have hfz6_3 := blk_frozen BK101.out 3; have hfz6_4 := blk_frozen BK101.out 4))
  go_ret
  exact ⟨by first | rfl | (simp [errW_none, errW_some] <;> rfl) | (simp [*, errW_none, errW_some] <;> rfl), by repeat (first | (with_reducible first | exact HB.out | apply below_alloc | apply pw_below_drewN | apply below_drew1 | refine below_set ?_ GE101.out) | exact HB.out)⟩

end Go.Proofs.YthdddcegopgopaaDoor.Qa

-- By gp.py (wip/gen of the work's repo), a program of this workplace over the kit's print: Lean checks it.
namespace Go.Proofs.YthdddcegopgopaaDoor.Qa
open Go.RowKit Go.Proofs.YthdddcegopgopaaDoorW.PrintWords Go.Proofs.YthdddcegopgopaaDoorW.PrintLast Go.Proofs.YthdddcegopgopaaDoorW.PrintMore
attribute [local go_sem] max2_int min2_int max_two min_two max_three min_three max_four min_four   -- for this text's walks alone
set_option linter.unusedVariables false
set_option linter.unusedSimpArgs false
set_option maxHeartbeats 8000000
set_option maxRecDepth 100000

/-! ### impl_kids: function 30 -/
def impl_kids.l0 : Nat → ByteArray → List ByteArray → List (S47) → Int → Int → Option (List ByteArray)
 | 0, _, _, _, _, _ => none
 | k + 1, x1, x5, x11, x12, x13 => if x13 < x12 then (if 0 ≤ x13 then (if x13 < (x11.length : Int) then ((impl_parted.f k ((rd_T47 x11 x13).f0)).bind fun bt106 => (if ((rd_T47 x11 x13).f0).toList = ([47] : List UInt8) then (impl_kids.l0 k x1 x5 x11 x12 (wrap64 (x13 + 1))) else (if bt106.1.toList = x1.toList then (if x5.length < 8796093022208 then (impl_kids.l0 k x1 (x5 ++ [bt106.2]) x11 x12 (wrap64 (x13 + 1))) else (none)) else (impl_kids.l0 k x1 x5 x11 x12 (wrap64 (x13 + 1)))))) else (none)) else (none)) else (some x5)
def impl_kids.f (k : Nat) (l0 : List (S47)) (a1 : ByteArray) : Option (List ByteArray) := impl_kids.l0 k a1 (([] : List ByteArray)) l0 (l0.length : Int) 0
theorem impl_kids.mono_l : ∀ k, (∀ y0 y1 y2 y3 y4, LeO (impl_kids.l0 k y0 y1 y2 y3 y4) (impl_kids.l0 (k + 1) y0 y1 y2 y3 y4))
 | 0 => fun _ _ _ _ _ r h => by simp [impl_kids.l0] at h
 | k + 1 => by
  have ih0 := impl_kids.mono_l k
  ·
   intro y0 y1 y2 y3 y4
   unfold impl_kids.l0
   repeat' first
   | (with_reducible exact ih0 _ _ _ _ _)
   | (with_reducible exact impl_parted.mono _ _)
   | (with_reducible exact LeO.refl _)
   | (with_reducible exact LeO.none _)
   | (with_reducible refine LeO.ite ?_ ?_)
   | (with_reducible refine LeO.bind ?_ (fun _ => ?_))
   | exact ih0 _ _ _ _ _
   | exact impl_parted.mono _ _
   | exact LeO.none _
   | refine LeO.ite ?_ ?_
   | refine LeO.bind ?_ (fun _ => ?_)
theorem impl_kids.mono : ∀ a0 a1 k, LeO (impl_kids.f k a0 a1) (impl_kids.f (k + 1) a0 a1) := by
 intro a0 a1 k
 have ih0 := impl_kids.mono_l k
 unfold impl_kids.f
 repeat' first
   | (with_reducible exact ih0 _ _ _ _ _)
   | (with_reducible exact impl_parted.mono _ _)
   | (with_reducible exact LeO.refl _)
   | (with_reducible exact LeO.none _)
   | (with_reducible refine LeO.ite ?_ ?_)
   | (with_reducible refine LeO.bind ?_ (fun _ => ?_))
   | exact ih0 _ _ _ _ _
   | exact impl_parted.mono _ _
   | exact LeO.none _
   | refine LeO.ite ?_ ?_
   | refine LeO.bind ?_ (fun _ => ?_)
theorem impl_kids.calls (k : Nat) (A0 : Option Addr) (c0 : Nat) (l0 : List (S47)) (a1 : ByteArray) (r : List ByteArray) (w : World) (hr0 : Kd.C k47 w A0 l0.length l0) (hc0 : l0.length ≤ c0) (h : impl_kids.f k l0 a1 = some r) :
  Calls Tryd.prog 30 #[.slice A0 l0.length c0, .string a1] w fun e w' => ∃ v0_ : Value, e = .returned (v0_) ∧ Kd.R Kd.string 9 w' w.heap.size (fun _ => True) v0_ r ∧ Below w.heap.size w w' := by
 have hu47 := Tryd.underlying47
 have HR0 := aa hr0
 have HC0 := aa hc0
 clear hr0 hc0
 have HB := aa (Below.refl w.heap.size w)
 have H : (impl_kids.l0 k a1 (([] : List ByteArray)) l0 (l0.length : Int) 0) = some r := h
 clear h
 obtain ⟨y101, hy101⟩ : ∃ y_ : List ByteArray, y_ = (([] : List ByteArray)) := ⟨_, rfl⟩
 replace H : (impl_kids.l0 k a1 y101 l0 (l0.length : Int) 0) = some r := by first | (rw [hy101]; with_reducible exact H) | (have H2_ := (Option.bind_some _ _).symm.trans H; rw [hy101]; with_reducible exact H2_) | (have H2_ := (Option.bind_some _ _).symm.trans H; with_reducible exact H2_) | with_reducible exact H | (rw [hy101]; exact H) | exact H
 have Ny101 := aa hy101
 clear hy101
 have H' := aa H
 clear H
 go_enter Tryd.func30, Tryd.ntmps30
 go_wp2_with (first | ((with_reducible refine gate_dst (N := 10) rfl ?_); refine Kd.R_lit Kd.string _ 9 ?hg (N := 10) ?hd (xs := ([] : List ByteArray)) (inner := []) (ok := fun _ => True) (okp := fun _ => True) ?hr ?hp (fun _ hk => hk) trivial (Below.refl _ _) (Nat.le_refl _) (by simp) ?_; (case hd => rfl); (case hg => rfl); (case hr => exact zhlgcp); (case hp => exact (Reps.none _ _)); intro v102 w3 ho4 hb hg_ hnew_; clear hg_ hnew_; (first | rw [← Ny101.out] at ho4 | (simp only [Int.reduceToNat] at ho4; rw [← Ny101.out] at ho4)); have n0_ := aa (Kd.R_lower ho4 (below_size zjjbob)); have n1_ := aa (below_step zjjbob hb); clear HB; have HO103 := n0_; have HB := n1_; clear n0_ n1_; clear hb ho4))
 go_loopg [5, 13] k (fun kq v5 v13 w' => ∃ (x5_1 : List ByteArray) (x13_1 : Int), v13 = .int .i64 x13_1 ∧ Aside0 (impl_kids.l0 kq a1 x5_1 l0 (l0.length : Int) x13_1 = some r) ∧ Aside0 (kq ≤ k) ∧ Aside0 (Kd.R Kd.string 9 w' w.heap.size (fun _ => True) v5 x5_1) ∧ Aside0 (Below w.heap.size w w'))
 case atStart => exact ⟨(y101), (0), zagbkp, H', ⟨Nat.le_refl _⟩, ⟨by (with_reducible repeat (first | apply Kd.R_alloc | apply Kd.R_drewN | apply Kd.R_drew)); exact HO103.out⟩, ⟨by repeat (first | (with_reducible first | exact HB.out | apply below_alloc | apply pw_below_drewN | apply below_drew1) | exact HB.out)⟩⟩
 case round =>
  clear H'
  try clear p2
  try clear c3
  obtain ⟨x5_1, x13_1, rfl, HA, HK1, HO_5, HB⟩ := hrel
  cases gk with
  | zero => exact absurd HA.out (by simp [impl_kids.l0])
  | succ k1 =>
   have H := HA.out
   clear HA
   simp only [impl_kids.l0] at H
   by_cases c5 : x13_1 < (l0.length : Int)
   ·
    rw [if_pos c5] at H
    have c5b0 : decide (x13_1 < (l0.length : Int)) = true := decide_eq_true c5
    clear c5
    by_cases c6 : 0 ≤ x13_1
    ·
     rw [if_pos c6] at H
     have c6b0 : decide (0 ≤ x13_1) = true := decide_eq_true c6
     clear c6
     by_cases c7 : x13_1 < (l0.length : Int)
     ·
      rw [if_pos c7] at H
      have c7b0 : decide (x13_1 < (l0.length : Int)) = true := decide_eq_true c7
      clear c7
      replace H := Option.bind_eq_some_iff.mp H
      obtain ⟨⟨t106, t107⟩, A80, H⟩ := H
      replace H : (if ((rd_T47 l0 x13_1).f0).toList = ([47] : List UInt8) then (impl_kids.l0 k1 a1 x5_1 l0 (l0.length : Int) (wrap64 (x13_1 + 1))) else (if t106.toList = a1.toList then (if x5_1.length < 8796093022208 then (impl_kids.l0 k1 a1 (x5_1 ++ [t107]) l0 (l0.length : Int) (wrap64 (x13_1 + 1))) else (none)) else (impl_kids.l0 k1 a1 x5_1 l0 (l0.length : Int) (wrap64 (x13_1 + 1))))) = some r := H
      have A8 := aa A80
      clear A80
      by_cases c9 : ((rd_T47 l0 x13_1).f0).toList = ([47] : List UInt8)
      ·
       rw [if_pos c9] at H
       have c9b0 : (((rd_T47 l0 x13_1).f0).toList == ([47] : List UInt8)) = true := beq_iff_eq.mpr c9
       have c9b1 : (((rd_T47 l0 x13_1).f0).toList != ([47] : List UInt8)) = false := bne_eq_false_iff_eq.mpr c9
       clear c9
       have H' := aa H
       clear H
       have p104 : 0 ≤ (x13_1 : Int) := of_decide_eq_true zgglam
       have q104 : x13_1 < (l0.length : Int) := of_decide_eq_true zgglam
       obtain ⟨ad104, e104, hx104_0, hx104_1, hx104_2, hx104_3, hx104_4⟩ := at_T47 HR0.out x13_1 p104 q104
       cases e104
       replace hx104_0 := pb HB.out hx104_0
       replace hx104_1 := pb HB.out hx104_1
       replace hx104_2 := pb HB.out hx104_2
       replace hx104_3 := pb HB.out hx104_3
       replace hx104_4 := pb HB.out hx104_4
       replace p104 := eq_true p104
       replace q104 := eq_true q104
       go_wp2_with (first | ((with_reducible refine gate_dst (N := 7) rfl ?_); refine box_event ?hg (N := 7) ?hd (cs := #[.string (⟨#[]⟩ : ByteArray), .int .i64 0, .int .i64 0, .int .i64 0, .int .i64 0]) (t := 47) ?hr ?_; (case hd => rfl); (case hg => rfl); (case hr => exact zhlgcp); intro gb105 hg w10 hbox hb; have n0_ := aa (Kd.R_below (zcaken HO_5.out) hb); have n1_ := aa (below_step zjjbob hb); have n2_ := aa (hbox); have n3_ := aa ((zkpfjp : w.heap.size ≤ gb105)); have n4_ := aa ((zkpfjp : w.heap.size ≤ gb105)); clear HO_5; clear HB; have HO_5 := n0_; have HB := n1_; have BK105 := n2_; have GW105 := n3_; have GE105 := n4_; clear n0_ n1_ n2_ n3_ n4_; clear hb hbox hg; have hcz11_0 : w10.cell? ⟨gb105, 0, none⟩ = some (.string (⟨#[]⟩ : ByteArray)) := (blk_cell BK105.out 0).trans rfl; have hcz11_1 : w10.cell? ⟨gb105, 1, none⟩ = some (.int .i64 0) := (blk_cell BK105.out 1).trans rfl; have hcz11_2 : w10.cell? ⟨gb105, 2, none⟩ = some (.int .i64 0) := (blk_cell BK105.out 2).trans rfl; have hcz11_3 : w10.cell? ⟨gb105, 3, none⟩ = some (.int .i64 0) := (blk_cell BK105.out 3).trans rfl; have hcz11_4 : w10.cell? ⟨gb105, 4, none⟩ = some (.int .i64 0) := (blk_cell BK105.out 4).trans rfl; have hfz11_0 := blk_frozen BK105.out 0; have hfz11_1 := blk_frozen BK105.out 1; have hfz11_2 := blk_frozen BK105.out 2; have hfz11_3 := blk_frozen BK105.out 3; have hfz11_4 := blk_frozen BK105.out 4) | ((with_reducible refine gate_callee (f := 39) rfl ?_); refine goesL_ (some 20) rfl rfl Tryd.func39 (by kernel_rfl) rfl #[.string ((rd_T47 l0 x13_1).f0)] rfl zjnmae ?_; (with_reducible refine (impl_parted.calls k1 ((rd_T47 l0 x13_1).f0) t106 t107 _ A8.out).mono ?_); rintro e w12 ⟨rfl, hb⟩; refine ⟨_, rfl, ?_⟩; have n0_ := aa (Kd.R_below (by (with_reducible repeat (first | apply Kd.R_alloc | apply Kd.R_drewN | apply Kd.R_drew)); exact (Kd.R_mono (Kd.R_far (p := ⟨gb105, 4, none⟩) (Kd.R_far (p := ⟨gb105, 3, none⟩) (Kd.R_far (p := ⟨gb105, 2, none⟩) (Kd.R_far (p := ⟨gb105, 1, none⟩) (Kd.R_far (p := ⟨gb105, 0, none⟩) (Kd.R_types HO_5.out BK105.out (by decide)) (fun _ hk => hk.2) (.string ((rd_T47 l0 x13_1).f0))) (fun _ hk => hk.2) (.int .i64 ((rd_T47 l0 x13_1).f1))) (fun _ hk => hk.2) (.int .i64 ((rd_T47 l0 x13_1).f2))) (fun _ hk => hk.2) (.int .i64 ((rd_T47 l0 x13_1).f3))) (fun _ hk => hk.2) (.int .i64 ((rd_T47 l0 x13_1).f4))) (fun _ h_ => h_.1))) hb); have n1_ := aa (blk_below (g := gb105) (o := .cells #[.string ((rd_T47 l0 x13_1).f0), .int .i64 ((rd_T47 l0 x13_1).f1), .int .i64 ((rd_T47 l0 x13_1).f2), .int .i64 ((rd_T47 l0 x13_1).f3), .int .i64 ((rd_T47 l0 x13_1).f4)] 47 (0, 0)) zhlhcd hb); have n2_ := aa (below_step zpeihn hb); clear HO_5; clear BK105; clear HB; have HO_5 := n0_; have BK105 := n1_; have HB := n2_; clear n0_ n1_ n2_; (try clear hb); (try clear hb2); (try clear hk); (try clear hi); have hcz13_0 : w12.cell? ⟨gb105, 0, none⟩ = some (.string ((rd_T47 l0 x13_1).f0)) := (blk_cell BK105.out 0).trans rfl; have hcz13_1 : w12.cell? ⟨gb105, 1, none⟩ = some (.int .i64 ((rd_T47 l0 x13_1).f1)) := (blk_cell BK105.out 1).trans rfl; have hcz13_2 : w12.cell? ⟨gb105, 2, none⟩ = some (.int .i64 ((rd_T47 l0 x13_1).f2)) := (blk_cell BK105.out 2).trans rfl; have hcz13_3 : w12.cell? ⟨gb105, 3, none⟩ = some (.int .i64 ((rd_T47 l0 x13_1).f3)) := (blk_cell BK105.out 3).trans rfl; have hcz13_4 : w12.cell? ⟨gb105, 4, none⟩ = some (.int .i64 ((rd_T47 l0 x13_1).f4)) := (blk_cell BK105.out 4).trans rfl; have hfz13_0 := blk_frozen BK105.out 0; have hfz13_1 := blk_frozen BK105.out 1; have hfz13_2 := blk_frozen BK105.out 2; have hfz13_3 := blk_frozen BK105.out 3; have hfz13_4 := blk_frozen BK105.out 4))
       go_roundg k1
       case measure => have := HK1.out; omega
       case rel => exact ⟨(x5_1), (wrap64 (x13_1 + 1)), zagbkp, H', ⟨by have := HK1.out; omega⟩, ⟨by (with_reducible repeat (first | apply Kd.R_alloc | apply Kd.R_drewN | apply Kd.R_drew)); exact HO_5.out⟩, ⟨by repeat (first | (with_reducible first | exact HB.out | apply below_alloc | apply pw_below_drewN | apply below_drew1 | refine below_set ?_ GE105.out) | exact HB.out)⟩⟩
      ·
       rw [if_neg c9] at H
       have c9b0 : (((rd_T47 l0 x13_1).f0).toList == ([47] : List UInt8)) = false := beq_eq_false_iff_ne.mpr c9
       have c9b1 : (((rd_T47 l0 x13_1).f0).toList != ([47] : List UInt8)) = true := bne_iff_ne.mpr c9
       by_cases c14 : t106.toList = a1.toList
       ·
        rw [if_pos c14] at H
        have c14b0 : (t106.toList == a1.toList) = true := beq_iff_eq.mpr c14
        have c14b1 : (t106.toList != a1.toList) = false := bne_eq_false_iff_eq.mpr c14
        clear c14
        by_cases c15 : x5_1.length < 8796093022208
        ·
         rw [if_pos c15] at H
         have LMc15 := aa c15
         clear c15
         obtain ⟨y108, hy108⟩ : ∃ y_ : List ByteArray, y_ = (x5_1 ++ [t107]) := ⟨_, rfl⟩
         replace H : (impl_kids.l0 k1 a1 y108 l0 (l0.length : Int) (wrap64 (x13_1 + 1))) = some r := by first | (rw [hy108]; with_reducible exact H) | (have H2_ := (Option.bind_some _ _).symm.trans H; rw [hy108]; with_reducible exact H2_) | (have H2_ := (Option.bind_some _ _).symm.trans H; with_reducible exact H2_) | with_reducible exact H | (rw [hy108]; exact H) | exact H
         have Ny108 := aa hy108
         clear hy108
         have H' := aa H
         clear H
         have p104 : 0 ≤ (x13_1 : Int) := of_decide_eq_true zgglam
         have q104 : x13_1 < (l0.length : Int) := of_decide_eq_true zgglam
         obtain ⟨ad104, e104, hx104_0, hx104_1, hx104_2, hx104_3, hx104_4⟩ := at_T47 HR0.out x13_1 p104 q104
         cases e104
         replace hx104_0 := pb HB.out hx104_0
         replace hx104_1 := pb HB.out hx104_1
         replace hx104_2 := pb HB.out hx104_2
         replace hx104_3 := pb HB.out hx104_3
         replace hx104_4 := pb HB.out hx104_4
         replace p104 := eq_true p104
         replace q104 := eq_true q104
         go_wp2_with (first | ((with_reducible refine gate_dst (N := 7) rfl ?_); refine box_event ?hg (N := 7) ?hd (cs := #[.string (⟨#[]⟩ : ByteArray), .int .i64 0, .int .i64 0, .int .i64 0, .int .i64 0]) (t := 47) ?hr ?_; (case hd => rfl); (case hg => rfl); (case hr => exact zhlgcp); intro gb105 hg w16 hbox hb; have n0_ := aa (Kd.R_below (zcaken HO_5.out) hb); have n1_ := aa (below_step zjjbob hb); have n2_ := aa (hbox); have n3_ := aa ((zkpfjp : w.heap.size ≤ gb105)); have n4_ := aa ((zkpfjp : w.heap.size ≤ gb105)); clear HO_5; clear HB; have HO_5 := n0_; have HB := n1_; have BK105 := n2_; have GW105 := n3_; have GE105 := n4_; clear n0_ n1_ n2_ n3_ n4_; clear hb hbox hg; have hcz17_0 : w16.cell? ⟨gb105, 0, none⟩ = some (.string (⟨#[]⟩ : ByteArray)) := (blk_cell BK105.out 0).trans rfl; have hcz17_1 : w16.cell? ⟨gb105, 1, none⟩ = some (.int .i64 0) := (blk_cell BK105.out 1).trans rfl; have hcz17_2 : w16.cell? ⟨gb105, 2, none⟩ = some (.int .i64 0) := (blk_cell BK105.out 2).trans rfl; have hcz17_3 : w16.cell? ⟨gb105, 3, none⟩ = some (.int .i64 0) := (blk_cell BK105.out 3).trans rfl; have hcz17_4 : w16.cell? ⟨gb105, 4, none⟩ = some (.int .i64 0) := (blk_cell BK105.out 4).trans rfl; have hfz17_0 := blk_frozen BK105.out 0; have hfz17_1 := blk_frozen BK105.out 1; have hfz17_2 := blk_frozen BK105.out 2; have hfz17_3 := blk_frozen BK105.out 3; have hfz17_4 := blk_frozen BK105.out 4) | ((with_reducible refine gate_callee (f := 39) rfl ?_); refine goesL_ (some 20) rfl rfl Tryd.func39 (by kernel_rfl) rfl #[.string ((rd_T47 l0 x13_1).f0)] rfl zjnmae ?_; (with_reducible refine (impl_parted.calls k1 ((rd_T47 l0 x13_1).f0) t106 t107 _ A8.out).mono ?_); rintro e w18 ⟨rfl, hb⟩; refine ⟨_, rfl, ?_⟩; have n0_ := aa (Kd.R_below (by (with_reducible repeat (first | apply Kd.R_alloc | apply Kd.R_drewN | apply Kd.R_drew)); exact (Kd.R_mono (Kd.R_far (p := ⟨gb105, 4, none⟩) (Kd.R_far (p := ⟨gb105, 3, none⟩) (Kd.R_far (p := ⟨gb105, 2, none⟩) (Kd.R_far (p := ⟨gb105, 1, none⟩) (Kd.R_far (p := ⟨gb105, 0, none⟩) (Kd.R_types HO_5.out BK105.out (by decide)) (fun _ hk => hk.2) (.string ((rd_T47 l0 x13_1).f0))) (fun _ hk => hk.2) (.int .i64 ((rd_T47 l0 x13_1).f1))) (fun _ hk => hk.2) (.int .i64 ((rd_T47 l0 x13_1).f2))) (fun _ hk => hk.2) (.int .i64 ((rd_T47 l0 x13_1).f3))) (fun _ hk => hk.2) (.int .i64 ((rd_T47 l0 x13_1).f4))) (fun _ h_ => h_.1))) hb); have n1_ := aa (blk_below (g := gb105) (o := .cells #[.string ((rd_T47 l0 x13_1).f0), .int .i64 ((rd_T47 l0 x13_1).f1), .int .i64 ((rd_T47 l0 x13_1).f2), .int .i64 ((rd_T47 l0 x13_1).f3), .int .i64 ((rd_T47 l0 x13_1).f4)] 47 (0, 0)) zhlhcd hb); have n2_ := aa (below_step zpeihn hb); clear HO_5; clear BK105; clear HB; have HO_5 := n0_; have BK105 := n1_; have HB := n2_; clear n0_ n1_ n2_; (try clear hb); (try clear hb2); (try clear hk); (try clear hi); have hcz19_0 : w18.cell? ⟨gb105, 0, none⟩ = some (.string ((rd_T47 l0 x13_1).f0)) := (blk_cell BK105.out 0).trans rfl; have hcz19_1 : w18.cell? ⟨gb105, 1, none⟩ = some (.int .i64 ((rd_T47 l0 x13_1).f1)) := (blk_cell BK105.out 1).trans rfl; have hcz19_2 : w18.cell? ⟨gb105, 2, none⟩ = some (.int .i64 ((rd_T47 l0 x13_1).f2)) := (blk_cell BK105.out 2).trans rfl; have hcz19_3 : w18.cell? ⟨gb105, 3, none⟩ = some (.int .i64 ((rd_T47 l0 x13_1).f3)) := (blk_cell BK105.out 3).trans rfl; have hcz19_4 : w18.cell? ⟨gb105, 4, none⟩ = some (.int .i64 ((rd_T47 l0 x13_1).f4)) := (blk_cell BK105.out 4).trans rfl; have hfz19_0 := blk_frozen BK105.out 0; have hfz19_1 := blk_frozen BK105.out 1; have hfz19_2 := blk_frozen BK105.out 2; have hfz19_3 := blk_frozen BK105.out 3; have hfz19_4 := blk_frozen BK105.out 4) | ((with_reducible refine gate_builtin (b := .append) (xs := #[.tmp 31, .tmp 33]) rfl ?_); at_builtin; refine Kd.R_append Kd.string (w0 := w) w.heap.size rfl (.tmp 31) (.tmp 33) 52 9 (.string ⟨#[]⟩) 16 rfl Tryd.underlying52 info9 rfl (by decide) (by omega) u5 x5_1 t107 [.string t107] (fun _ => True) (fun _ => False) rfl rfl ?aP (fun _ hk => hk.elim) ?aF ?aO ?aB ?aS ?aL ?_; (case aP => exact rfl); (case aB => exact zpeihn); (case aF => exact (fun _ _ => trivial)); (case aO => exact (zcaken HO_5.out)); (case aS => exact (below_size zpeihn)); (case aL => have := LMc15.out; omega); intro v109 w20 ho hb hg hat; rw [← Ny108.out] at ho; have n0_ := aa (blk_grown (g := gb105) (o := .cells #[.string ((rd_T47 l0 x13_1).f0), .int .i64 ((rd_T47 l0 x13_1).f1), .int .i64 ((rd_T47 l0 x13_1).f2), .int .i64 ((rd_T47 l0 x13_1).f3), .int .i64 ((rd_T47 l0 x13_1).f4)] 47 (0, 0)) (zkjhpm BK105.out) hg (Kd.R_ne HO_5.out BK105.out (by decide))); have n1_ := aa (hb); have n2_ := aa (ho); clear BK105; clear HB; clear HO_5; have BK105 := n0_; have HB := n1_; have HO110 := n2_; clear n0_ n1_ n2_; clear ho hb hg hat))
         go_roundg k1
         case measure => have := HK1.out; omega
         case rel => exact ⟨(y108), (wrap64 (x13_1 + 1)), zagbkp, H', ⟨by have := HK1.out; omega⟩, ⟨by (with_reducible repeat (first | apply Kd.R_alloc | apply Kd.R_drewN | apply Kd.R_drew)); exact HO110.out⟩, ⟨by repeat (first | (with_reducible first | exact HB.out | apply below_alloc | apply pw_below_drewN | apply below_drew1 | refine below_set ?_ GE105.out) | exact HB.out)⟩⟩
        ·
         rw [if_neg c15] at H
         exact absurd H (by simp)
       ·
        rw [if_neg c14] at H
        have c14b0 : (t106.toList == a1.toList) = false := beq_eq_false_iff_ne.mpr c14
        have c14b1 : (t106.toList != a1.toList) = true := bne_iff_ne.mpr c14
        have H' := aa H
        clear H
        have p104 : 0 ≤ (x13_1 : Int) := of_decide_eq_true zgglam
        have q104 : x13_1 < (l0.length : Int) := of_decide_eq_true zgglam
        obtain ⟨ad104, e104, hx104_0, hx104_1, hx104_2, hx104_3, hx104_4⟩ := at_T47 HR0.out x13_1 p104 q104
        cases e104
        replace hx104_0 := pb HB.out hx104_0
        replace hx104_1 := pb HB.out hx104_1
        replace hx104_2 := pb HB.out hx104_2
        replace hx104_3 := pb HB.out hx104_3
        replace hx104_4 := pb HB.out hx104_4
        replace p104 := eq_true p104
        replace q104 := eq_true q104
        go_wp2_with (first | ((with_reducible refine gate_dst (N := 7) rfl ?_); refine box_event ?hg (N := 7) ?hd (cs := #[.string (⟨#[]⟩ : ByteArray), .int .i64 0, .int .i64 0, .int .i64 0, .int .i64 0]) (t := 47) ?hr ?_; (case hd => rfl); (case hg => rfl); (case hr => exact zhlgcp); intro gb105 hg w21 hbox hb; have n0_ := aa (Kd.R_below (zcaken HO_5.out) hb); have n1_ := aa (below_step zjjbob hb); have n2_ := aa (hbox); have n3_ := aa ((zkpfjp : w.heap.size ≤ gb105)); have n4_ := aa ((zkpfjp : w.heap.size ≤ gb105)); clear HO_5; clear HB; have HO_5 := n0_; have HB := n1_; have BK105 := n2_; have GW105 := n3_; have GE105 := n4_; clear n0_ n1_ n2_ n3_ n4_; clear hb hbox hg; have hcz22_0 : w21.cell? ⟨gb105, 0, none⟩ = some (.string (⟨#[]⟩ : ByteArray)) := (blk_cell BK105.out 0).trans rfl; have hcz22_1 : w21.cell? ⟨gb105, 1, none⟩ = some (.int .i64 0) := (blk_cell BK105.out 1).trans rfl; have hcz22_2 : w21.cell? ⟨gb105, 2, none⟩ = some (.int .i64 0) := (blk_cell BK105.out 2).trans rfl; have hcz22_3 : w21.cell? ⟨gb105, 3, none⟩ = some (.int .i64 0) := (blk_cell BK105.out 3).trans rfl; have hcz22_4 : w21.cell? ⟨gb105, 4, none⟩ = some (.int .i64 0) := (blk_cell BK105.out 4).trans rfl; have hfz22_0 := blk_frozen BK105.out 0; have hfz22_1 := blk_frozen BK105.out 1; have hfz22_2 := blk_frozen BK105.out 2; have hfz22_3 := blk_frozen BK105.out 3; have hfz22_4 := blk_frozen BK105.out 4) | ((with_reducible refine gate_callee (f := 39) rfl ?_); refine goesL_ (some 20) rfl rfl Tryd.func39 (by kernel_rfl) rfl #[.string ((rd_T47 l0 x13_1).f0)] rfl zjnmae ?_; (with_reducible refine (impl_parted.calls k1 ((rd_T47 l0 x13_1).f0) t106 t107 _ A8.out).mono ?_); rintro e w23 ⟨rfl, hb⟩; refine ⟨_, rfl, ?_⟩; have n0_ := aa (Kd.R_below (by (with_reducible repeat (first | apply Kd.R_alloc | apply Kd.R_drewN | apply Kd.R_drew)); exact (Kd.R_mono (Kd.R_far (p := ⟨gb105, 4, none⟩) (Kd.R_far (p := ⟨gb105, 3, none⟩) (Kd.R_far (p := ⟨gb105, 2, none⟩) (Kd.R_far (p := ⟨gb105, 1, none⟩) (Kd.R_far (p := ⟨gb105, 0, none⟩) (Kd.R_types HO_5.out BK105.out (by decide)) (fun _ hk => hk.2) (.string ((rd_T47 l0 x13_1).f0))) (fun _ hk => hk.2) (.int .i64 ((rd_T47 l0 x13_1).f1))) (fun _ hk => hk.2) (.int .i64 ((rd_T47 l0 x13_1).f2))) (fun _ hk => hk.2) (.int .i64 ((rd_T47 l0 x13_1).f3))) (fun _ hk => hk.2) (.int .i64 ((rd_T47 l0 x13_1).f4))) (fun _ h_ => h_.1))) hb); have n1_ := aa (blk_below (g := gb105) (o := .cells #[.string ((rd_T47 l0 x13_1).f0), .int .i64 ((rd_T47 l0 x13_1).f1), .int .i64 ((rd_T47 l0 x13_1).f2), .int .i64 ((rd_T47 l0 x13_1).f3), .int .i64 ((rd_T47 l0 x13_1).f4)] 47 (0, 0)) zhlhcd hb); have n2_ := aa (below_step zpeihn hb); clear HO_5; clear BK105; clear HB; have HO_5 := n0_; have BK105 := n1_; have HB := n2_; clear n0_ n1_ n2_; (try clear hb); (try clear hb2); (try clear hk); (try clear hi); have hcz24_0 : w23.cell? ⟨gb105, 0, none⟩ = some (.string ((rd_T47 l0 x13_1).f0)) := (blk_cell BK105.out 0).trans rfl; have hcz24_1 : w23.cell? ⟨gb105, 1, none⟩ = some (.int .i64 ((rd_T47 l0 x13_1).f1)) := (blk_cell BK105.out 1).trans rfl; have hcz24_2 : w23.cell? ⟨gb105, 2, none⟩ = some (.int .i64 ((rd_T47 l0 x13_1).f2)) := (blk_cell BK105.out 2).trans rfl; have hcz24_3 : w23.cell? ⟨gb105, 3, none⟩ = some (.int .i64 ((rd_T47 l0 x13_1).f3)) := (blk_cell BK105.out 3).trans rfl; have hcz24_4 : w23.cell? ⟨gb105, 4, none⟩ = some (.int .i64 ((rd_T47 l0 x13_1).f4)) := (blk_cell BK105.out 4).trans rfl; have hfz24_0 := blk_frozen BK105.out 0; have hfz24_1 := blk_frozen BK105.out 1; have hfz24_2 := blk_frozen BK105.out 2; have hfz24_3 := blk_frozen BK105.out 3; have hfz24_4 := blk_frozen BK105.out 4))
        go_roundg k1
        case measure => have := HK1.out; omega
        case rel => exact ⟨(x5_1), (wrap64 (x13_1 + 1)), zagbkp, H', ⟨by have := HK1.out; omega⟩, ⟨by (with_reducible repeat (first | apply Kd.R_alloc | apply Kd.R_drewN | apply Kd.R_drew)); exact HO_5.out⟩, ⟨by repeat (first | (with_reducible first | exact HB.out | apply below_alloc | apply pw_below_drewN | apply below_drew1 | refine below_set ?_ GE105.out) | exact HB.out)⟩⟩
     ·
      rw [if_neg c7] at H
      exact absurd H (by simp)
    ·
     rw [if_neg c6] at H
     exact absurd H (by simp)
   ·
    rw [if_neg c5] at H
    have c5b0 : decide (x13_1 < (l0.length : Int)) = false := decide_eq_false c5
    clear c5
    obtain rfl := Option.some.inj H
    go_wp2
    go_ret
    exact ⟨_, by first | rfl | (simp [errW_none, errW_some] <;> rfl) | (simp [*, errW_none, errW_some] <;> rfl), by (with_reducible repeat (first | apply Kd.R_alloc | apply Kd.R_drewN | apply Kd.R_drew)); exact HO_5.out, by repeat (first | (with_reducible first | exact HB.out | apply below_alloc | apply pw_below_drewN | apply below_drew1) | exact HB.out)⟩

end Go.Proofs.YthdddcegopgopaaDoor.Qa

-- By gp.py (wip/gen of the work's repo), a program of this workplace over the kit's print: Lean checks it.
namespace Go.Proofs.YthdddcegopgopaaDoor.Qa
open Go.RowKit Go.Proofs.YthdddcegopgopaaDoorW.PrintWords Go.Proofs.YthdddcegopgopaaDoorW.PrintLast Go.Proofs.YthdddcegopgopaaDoorW.PrintMore
attribute [local go_sem] max2_int min2_int max_two min_two max_three min_three max_four min_four   -- for this text's walks alone
set_option linter.unusedVariables false
set_option linter.unusedSimpArgs false
set_option maxHeartbeats 8000000
set_option maxRecDepth 100000

/-! ### slices_Delete_impl_Znode_impl_Znode: function 31 -/
section
open Go.Lib Go.Proofs.YthdddcegopgopaaDoor.Raw
def slices_Delete_impl_Znode_impl_Znode.f (l0 : List S47) (a1 : Int) (a2 : Int) : Option (List S47) := if 0 ≤ a1 then (if a1 < (l0.length : Int) then (if a2 = a1 + 1 then (if l0.length < 1048576000 then (some (l0.take a1.toNat ++ l0.drop (a1.toNat + 1))) else none) else none) else none) else none
theorem slices_Delete_impl_Znode_impl_Znode.kM (w w1 : World) (base : Nat) (ok : Nat → Prop) (x : S47) (cs : List Value) (h : k47.K w x cs) : k47.M w1 base ok x cs := h
theorem slices_Delete_impl_Znode_impl_Znode.raw (g cap : Nat) (cur : Array Value) (n : Nat) (i : Nat) (w : World) (hi : i < n) (hnc : n ≤ cap) (hcm : cap ≤ 9223372036854775807)
  (hg : w.heap[g]? = some (.cells cur 47 (0, 0))) (hcs : cur.size = cap * 5) (h1 : ∀ v ∈ cur.toList.take (n * 5), v.oneCell' = true) :
  Calls Tryd.prog 31 #[.slice (some ⟨g, 0, none⟩) n cap, .int .i64 i, .int .i64 ((i : Int) + 1)] w fun e w' =>
   ∃ arr2 : Array Value, e = .returned (.slice (some ⟨g, 0, none⟩) (n - 1) cap) ∧ w' = w.drew.setRow g arr2 ∧ arr2.size = cur.size ∧ arr2.toList.take ((n - 1) * 5) = (cur.toList.take (n * 5)).take (i * 5) ++ (cur.toList.take (n * 5)).drop ((i + 1) * 5) := by
 obtain ⟨i0, hi0, hzz⟩ := Option.map_eq_some_iff.1 info47
 simp only [Prod.mk.injEq] at hzz
 obtain ⟨hz0, hzs, hzb⟩ := hzz
 have hLl : cur.toList.length = cap * 5 := by rw [Array.length_toList]; exact hcs
 obtain ⟨TAIL, hTAIL⟩ : ∃ TAIL, TAIL = (cur.toList.take (n * 5)).drop ((i + 1) * 5) := ⟨_, rfl⟩
 have hTl : TAIL.length = (n - (i + 1)) * 5 := by rw [hTAIL, List.length_drop, List.length_take, hLl]; omega
 have ho1 : ∀ v ∈ TAIL, v.oneCell' = true := fun v hv => h1 v (by rw [hTAIL] at hv; exact List.mem_of_mem_drop hv)
 have hTc : ∀ j v, TAIL[j]? = some v → w.cell? ⟨g, (i + 1) * 5 + j, none⟩ = some v := fun j v hj => by
  rw [hTAIL, List.getElem?_drop, List.getElem?_take] at hj
  split at hj
  ·
   rw [cell_row w g cur 47 (0, 0) hg, ← Array.getElem?_toList]
   exact hj
  ·
   cases hj
 obtain ⟨L1, hL1⟩ : ∃ L1, L1 = cur.toList.take (i * 5) ++ TAIL ++ cur.toList.drop (i * 5 + TAIL.length) := ⟨_, rfl⟩
 have hL1l : L1.length = cap * 5 := by rw [hL1, List.length_append, List.length_append, List.length_take, List.length_drop, hTl, hLl]; omega
 have hL1t : L1.take ((n - 1) * 5) = cur.toList.take (i * 5) ++ TAIL := by
  rw [hL1]
  exact List.take_left' (by rw [List.length_append, List.length_take, hTl, hLl]; omega)
 obtain ⟨W1, hW1⟩ : ∃ W1, W1 = w.drew.setRow g L1.toArray := ⟨_, rfl⟩
 have hst0 := run_storeCells_at Tryd.prog g (i * 5) 47 TAIL 0 cur w.drew hg (by rw [hTl, hcs]; omega) ho1
 have hst : (storeCells ⟨g, i * 5, none⟩ TAIL).run Tryd.prog w.drew = .ok () W1 := by
  rw [hW1, hL1]
  exact hst0
 clear hst0
 have hlen : i + (n - (i + 1)) = n - 1 := by omega
 have hroom : n - 1 ≤ cap := by omega
 have hg1 : W1.heap[g]? = some (.cells L1.toArray 47 (0, 0)) := by rw [hW1]; exact row_of w.drew g cur _ 47 (0, 0) hg
 obtain ⟨ZS, hZS⟩ : ∃ ZS : List Value, ZS = (Builtin.zeroCells ((.agg #[(.string ⟨#[]⟩), (.int .i64 0), (.int .i64 0), (.int .i64 0), (.int .i64 0)]) : Value).cells (0 + 1)).toList := ⟨_, rfl⟩
 have hZl : ZS.length = 5 := by rw [hZS]; kernel_rfl
 have hZa : ZS.all (fun v => v.oneCell') = true := by rw [hZS]; kernel_rfl
 have hZ1 : ∀ v ∈ ZS, v.oneCell' = true := List.all_eq_true.1 hZa
 obtain ⟨L2, hL2⟩ : ∃ L2, L2 = L1.take ((n - 1) * 5) ++ ZS ++ L1.drop ((n - 1) * 5 + ZS.length) := ⟨_, rfl⟩
 have hL2l : L2.length = cap * 5 := by rw [hL2, List.length_append, List.length_append, List.length_take, List.length_drop, hZl, hL1l]; omega
 have hL2t : L2.take ((n - 1) * 5) = L1.take ((n - 1) * 5) := by
  rw [hL2, List.append_assoc]
  exact List.take_left' (by rw [List.length_take, hL1l]; omega)
 have hcl : ∀ ty c, (Builtin.clear_ #[24] ty #[.slice (some ⟨g, (n - 1) * 5, none⟩) 1 c]).run Tryd.prog W1 = .ok (.tuple #[]) (W1.setRow g L2.toArray) := fun ty c => by
  have h := run_clear_wide (P := Tryd.prog) W1 24 47 ty _ ZS Tryd.underlying24 Tryd.zeroValue47 g ((n - 1) * 5) 0 c L1.toArray 47 hZS.symm hg1 (by rw [hZl, List.size_toArray, hL1l]; omega) hZ1
  rw [hL2]
  exact h
 have hz2 : ¬ ((i : Int) = (i : Int) + 1) := by omega
 have hw1 : IntKind.i64.wrap ((i : Int) + 1) = (i : Int) + 1 := by rw [IntKind.wrap_i64]; omega
 have hb1 : (0 : Int) ≤ (i : Int) + 1 := by omega
 have hin : i ≤ n := by omega
 have hin1 : (i : Int) + 1 ≤ (n : Int) := by omega
 have htn : ((i : Int) + 1).toNat = i + 1 := by omega
 have hci : ¬ (cap = i) := by omega
 have hnn : n - (n - 1) = 1 := by omega
 have hn1 : n - 1 ≤ n := by omega
 have hcn : ¬ (cap = n - 1) := by omega
 have AW1 := aa hW1
 have AL1 := aa hL1
 have AL2 := aa hL2
 have AT := aa hTAIL
 have AZ := aa hZS
 clear hW1 hL1 hL2 hTAIL hZS
 have mixed : Tryd.prog.follows .mixedOrders = true := by kernel_rfl
 clear hZa
 have hic : i ≤ cap := by omega
 have hic2 : (i : Int) ≤ (cap : Int) := by omega
 by_cases hc1 : cap = i + 1
 ·
  have e0 : n - (i + 1) = 0 := by omega
  have hld : (loadCellsFrom ⟨g, 0, none⟩ 0 ((n - (i + 1)) * 5) #[]).run Tryd.prog w.drew = .ok TAIL.toArray w.drew := by
   have hT0 : TAIL = [] := List.eq_nil_of_length_eq_zero (by rw [hTl, e0])
   rw [e0, hT0]
   exact run_loadCells_list (P := Tryd.prog) w.drew ⟨g, 0, none⟩ [] (by simp)
  have hc1' := eq_true hc1
  clear hc1 e0
  go_enter Tryd.func31, Tryd.ntmps31
  go_wp2
  go_region_law_o (fail)
  go_wp2_with (at_builtin; refine ev_clear rfl _ 24 rfl _ rfl (hcl _ _) ?_)
  go_ret
  refine ⟨L2.toArray, rfl, by rw [AW1.out, setRow_setRow], ?_, ?_⟩
  ·
   rw [List.size_toArray, hL2l, hcs]
  ·
   show List.take ((n - 1) * 5) L2 = _
   rw [hL2t, hL1t, AT.out, List.take_take, Nat.min_eq_left (by omega)]
 ·
  have hld : (loadCellsFrom ⟨g, (i + 1) * 5, none⟩ 0 ((n - (i + 1)) * 5) #[]).run Tryd.prog w.drew = .ok TAIL.toArray w.drew := by
   rw [← hTl]
   exact run_loadCells_list (P := Tryd.prog) w.drew ⟨g, (i + 1) * 5, none⟩ TAIL (fun j v hj => by rw [Addr.add_lit]; exact hTc j v hj)
  go_enter Tryd.func31, Tryd.ntmps31
  go_wp2
  go_region_law_o (fail)
  go_wp2_with (at_builtin; refine ev_clear rfl _ 24 rfl _ rfl (hcl _ _) ?_)
  go_ret
  refine ⟨L2.toArray, rfl, by rw [AW1.out, setRow_setRow], ?_, ?_⟩
  ·
   rw [List.size_toArray, hL2l, hcs]
  ·
   show List.take ((n - 1) * 5) L2 = _
   rw [hL2t, hL1t, AT.out, List.take_take, Nat.min_eq_left (by omega)]
theorem slices_Delete_impl_Znode_impl_Znode.calls (P0_ : Nat → Prop) (u9000_ : Value) (l0 : List S47) (a1 : Int) (a2 : Int) (r : List S47) (w0 w : World) (hB : Below w0.heap.size w0 w) (ho0 : Kd.R k47 47 w w0.heap.size P0_ u9000_ l0) (h : slices_Delete_impl_Znode_impl_Znode.f l0 a1 a2 = some r) :
  Calls Tryd.prog 31 #[u9000_, .int .i64 a1, .int .i64 a2] w fun e w' => ∃ v0_ : Value, e = .returned (v0_) ∧ Kd.R k47 47 w' w0.heap.size (fun k_ => (P0_ k_ ∨ w.heap.size ≤ k_)) v0_ r ∧ Below w0.heap.size w0 w' ∧ Kept w w' (fun k_ => P0_ k_) := by
 unfold slices_Delete_impl_Znode_impl_Znode.f at h
 have q0 : 0 ≤ a1 := Decidable.byContradiction fun c => by rw [if_neg c] at h; cases h
 rw [if_pos q0] at h
 have q1 : a1 < (l0.length : Int) := Decidable.byContradiction fun c => by rw [if_neg c] at h; cases h
 rw [if_pos q1] at h
 have q2 : a2 = a1 + 1 := Decidable.byContradiction fun c => by rw [if_neg c] at h; cases h
 rw [if_pos q2] at h
 have q3 : l0.length < 1048576000 := Decidable.byContradiction fun c => by rw [if_neg c] at h; cases h
 rw [if_pos q3] at h
 obtain rfl := Option.some.inj h
 clear h
 subst q2
 obtain ⟨i, rfl⟩ := Int.eq_ofNat_of_zero_le q0
 rw [Int.toNat_natCast]
 have hi : i < l0.length := by omega
 have hok : ∀ k, u9000_.ownBlock = some k → P0_ k := ho0.1
 obtain ⟨h0, inner, hown, hrp⟩ := ho0
 have hrK := reps_K hrp
 rcases hown with ⟨hil, ⟨rfl, hn⟩ | ⟨g, cap, cur, rfl, hbg, hg, hnc, hcm, hcs, hti⟩⟩
 ·
  omega
 have hcs' : cur.size = cap * 5 := hcs
 have hti' : cur.toList.take (l0.length * 5) = inner := hti
 have hil' : inner.length = l0.length * 5 := hil
 have hPg : P0_ g := hok g rfl
 have h1 : ∀ v ∈ cur.toList.take (l0.length * 5), v.oneCell' = true := by
  rw [hti']
  intro v hv
  obtain ⟨j, hj, rfl⟩ := List.getElem_of_mem hv
  have hjl : j / 5 < l0.length := by omega
  have hK := k47.K_one (hrK.2 (j / 5) _ (List.getElem?_eq_getElem hjl))
  refine hK _ (List.mem_iff_getElem?.2 ⟨j % 5, ?_⟩)
  have e5 : k47.sz = 5 := rfl
  rw [e5, List.getElem?_take, if_pos (Nat.mod_lt _ (by omega)), List.getElem?_drop, show j / 5 * 5 + j % 5 = j by omega]
  exact List.getElem?_eq_getElem hj
 have hput : Reps (k47.K w) k47.sz (l0.take i ++ l0.drop (i + 1)) (inner.take (i * 5) ++ inner.drop ((i + 1) * 5)) := Kd.reps_append (Kd.reps_take hrK (Nat.le_of_lt hi)) (Kd.reps_drop hrK)
 have hpl : (l0.take i ++ l0.drop (i + 1)).length = l0.length - 1 := by
  rw [List.length_append, List.length_take, List.length_drop]
  omega
 have hil2 : (inner.take (i * 5) ++ inner.drop ((i + 1) * 5)).length = (l0.length - 1) * 5 := by
  rw [List.length_append, List.length_take, List.length_drop, hil']
  omega
 refine (slices_Delete_impl_Znode_impl_Znode.raw g cap cur l0.length i w hi hnc (by unfold maxLen at hcm; omega) hg hcs' h1).mono ?_
 rintro e w' ⟨arr2, rfl, rfl, hs2, ht2⟩
 have hgr : w.grownBy (w.drew.setRow g arr2) (some g) := let z := grown_row w.drew g arr2; ⟨z.os, z.tape, z.output, z.size, z.block⟩
 have ho : (w.drew.setRow g arr2).ownsRow w0.heap.size 47 5 (.slice (some ⟨g, 0, none⟩) (l0.length - 1) cap) (l0.take i ++ l0.drop (i + 1)).length (inner.take (i * 5) ++ inner.drop ((i + 1) * 5)) := by
  rw [hpl]
  exact ⟨hil2, .inr ⟨g, cap, arr2, rfl, hbg, row_of w.drew g cur arr2 47 (0, 0) hg, by omega, hcm, by rw [hs2]; exact hcs', by rw [ht2, hti']⟩⟩
 refine ⟨_, rfl, R_flat k47 slices_Delete_impl_Znode_impl_Znode.kM (fun k hk => ?_) ho hput, pw_below_grown hB (some g) hB.size hgr (fun k hk => by injection hk with hk; omega), Kept.of_grown hgr (Kept.refl _ _) (fun k hk => .inl (by injection hk with hk; rw [← hk]; exact hPg))⟩
 have : g = k := by simpa [Value.ownBlock] using hk
 exact .inl (this ▸ hPg)
end

end Go.Proofs.YthdddcegopgopaaDoor.Qa

-- By gp.py (wip/gen of the work's repo), a program of this workplace over the kit's print: Lean checks it.
namespace Go.Proofs.YthdddcegopgopaaDoor.Qa
open Go.RowKit Go.Proofs.YthdddcegopgopaaDoorW.PrintWords Go.Proofs.YthdddcegopgopaaDoorW.PrintLast Go.Proofs.YthdddcegopgopaaDoorW.PrintMore
attribute [local go_sem] max2_int min2_int max_two min_two max_three min_three max_four min_four   -- for this text's walks alone
set_option linter.unusedVariables false
set_option linter.unusedSimpArgs false
set_option maxHeartbeats 8000000
set_option maxRecDepth 100000

/-! ### slices_Clone_impl_Znode_impl_Znode: function 32 -/
def slices_Clone_impl_Znode_impl_Znode.f (l0 : List (S47)) : Option ((List (S47))) := (some (([] : List (S47)) : List (S47))).bind fun y101 => (if y101.length + l0.length < 2932031007402 then (some (y101 ++ l0)) else (none))
theorem slices_Clone_impl_Znode_impl_Znode.calls_some (ad0 : Addr) (c0 : Nat) (l0 : List (S47)) (r : List (S47)) (w : World) (hr0 : Kd.C k47 w (some ad0) l0.length l0) (hc0 : l0.length ≤ c0) (h : slices_Clone_impl_Znode_impl_Znode.f l0 = some r) :
  Calls Tryd.prog 32 #[.slice (some ad0) l0.length c0] w fun e w' => ∃ v0_ : Value, e = .returned (v0_) ∧ Kd.R k47 47 w' w.heap.size (fun _ => True) v0_ r ∧ Below w.heap.size w w' := by
 have HR0 := aa hr0
 have HC0 := aa hc0
 clear hr0 hc0
 have HB := aa (Below.refl w.heap.size w)
 have H : ((some (([] : List (S47)) : List (S47))).bind fun y101 => (if y101.length + l0.length < 2932031007402 then (some (y101 ++ l0)) else (none))) = some r := h
 clear h
 obtain ⟨y101, hy101⟩ : ∃ y_ : List (S47), y_ = (([] : List (S47))) := ⟨_, rfl⟩
 replace H : (if y101.length + l0.length < 2932031007402 then (some (y101 ++ l0)) else (none)) = some r := by first | (rw [hy101]; with_reducible exact H) | (have H2_ := (Option.bind_some _ _).symm.trans H; rw [hy101]; with_reducible exact H2_) | (have H2_ := (Option.bind_some _ _).symm.trans H; with_reducible exact H2_) | with_reducible exact H | (rw [hy101]; exact H) | exact H
 have Ny101 := aa hy101
 clear hy101
 by_cases c2 : y101.length + l0.length < 2932031007402
 ·
  rw [if_pos c2] at H
  have LMc2 := aa c2
  clear c2
  obtain ⟨y104, hy104⟩ : ∃ y_ : List (S47), y_ = (y101 ++ l0) := ⟨_, rfl⟩
  replace H : (some y104) = some r := by first | (rw [hy104]; with_reducible exact H) | (have H2_ := (Option.bind_some _ _).symm.trans H; rw [hy104]; with_reducible exact H2_) | (have H2_ := (Option.bind_some _ _).symm.trans H; with_reducible exact H2_) | with_reducible exact H | (rw [hy104]; exact H) | exact H
  have Ny104 := aa hy104
  clear hy104
  obtain rfl := Option.some.inj H
  have hnil_ : ∀ W : World, (binOp .eql 24 (.slice (some ad0) l0.length c0) (.slice none 0 0)).run Tryd.prog W = Result.ok (.bool false) W := fun W => Go.run_eql_slice_nil W 24 47 (some ad0) _ _ Tryd.underlying24
  go_enter Tryd.func32, Tryd.ntmps32
  go_wp2_with (first | ((with_reducible refine gate_dst (N := 5) rfl ?_); refine Kd.R_lit k47 _ 47 ?hg (N := 5) ?hd (xs := ([] : List (S47))) (inner := []) (ok := fun _ => True) (okp := fun _ => True) ?hr ?hp (fun _ hk => hk) trivial (Below.refl _ _) (Nat.le_refl _) (by simp) ?_; (case hd => rfl); (case hg => rfl); (case hr => exact zhlgcp); (case hp => exact (Reps.none _ _)); intro v102 w3 ho4 hb hg_ hnew_; clear hg_ hnew_; (first | rw [← Ny101.out] at ho4 | (simp only [Int.reduceToNat] at ho4; rw [← Ny101.out] at ho4)); have n0_ := aa (Kd.R_lower ho4 (below_size zjjbob)); have n1_ := aa (below_step zjjbob hb); clear HB; have HO103 := n0_; have HB := n1_; clear n0_ n1_; clear hb ho4) | ((with_reducible refine gate_builtin (b := .append) (xs := #[.tmp 5, .tmp 6]) rfl ?_); at_builtin; refine Kd.R_append_rows k47 (w0 := w) w.heap.size rfl (.tmp 5) (.tmp 6) 24 47 (.agg #[(.string ⟨#[]⟩), (.int .i64 0), (.int .i64 0), (.int .i64 0), (.int .i64 0)]) 48 rfl Tryd.underlying24 info47 rfl (by decide) (by omega) v102 y101 l0 _ _ _ (fun _ => True) (fun _ => False) rfl rfl ?aO ?aR (fun _ _ h => h) (fun _ h => h.elim) ?aF ?aB ?aS ?aL ?_; (case aR => exact zfmbgg); (case aB => exact zjjbob); (case aF => exact (fun _ _ => trivial)); (case aO => exact (zcaken HO103.out)); (case aS => exact (below_size zjjbob)); (case aL => have := LMc2.out; omega); intro v105 w5 ho hb hg hat; rw [← Ny104.out] at ho; have n0_ := aa (hb); have n1_ := aa (ho); clear HB; clear HO103; have HB := n0_; have HO106 := n1_; clear n0_ n1_; clear ho hb hg hat))
  go_ret
  exact ⟨_, by first | rfl | (simp [errW_none, errW_some] <;> rfl) | (simp [*, errW_none, errW_some] <;> rfl), by (with_reducible repeat (first | apply Kd.R_alloc | apply Kd.R_drewN | apply Kd.R_drew)); exact HO106.out, by repeat (first | (with_reducible first | exact HB.out | apply below_alloc | apply pw_below_drewN | apply below_drew1) | exact HB.out)⟩
 ·
  rw [if_neg c2] at H
  exact absurd H (by simp)
theorem slices_Clone_impl_Znode_impl_Znode.calls_none (c0 : Nat) (w : World) :
  Calls Tryd.prog 32 #[.slice none 0 c0] w fun e w' => e = .returned (.slice none 0 0) ∧ Drawn0 w w' := by
 have hnil_ : ∀ W : World, (binOp .eql 24 (.slice none 0 c0) (.slice none 0 0)).run Tryd.prog W = Result.ok (.bool true) W := fun W => Go.run_eql_slice_nil W 24 47 none _ _ Tryd.underlying24
 go_enter Tryd.func32, Tryd.ntmps32
 go_wp2
 go_ret
 exact ⟨rfl, by repeat (first | exact Drawn0.refl _ | apply Drawn0.step)⟩
theorem slices_Clone_impl_Znode_impl_Znode.calls (A0 : Option Addr) (c0 : Nat) (l0 : List (S47)) (r : List (S47)) (w : World) (hr0 : Kd.C k47 w A0 l0.length l0) (hc0 : l0.length ≤ c0) (h : slices_Clone_impl_Znode_impl_Znode.f l0 = some r) :
  Calls Tryd.prog 32 #[.slice A0 l0.length c0] w fun e w' => ∃ v0_ : Value, e = .returned (v0_) ∧ Kd.R k47 47 w' w.heap.size (fun _ => True) v0_ r ∧ Below w.heap.size w w' := by
 cases A0 with
 | some ad0 => exact slices_Clone_impl_Znode_impl_Znode.calls_some ad0 c0 l0 r w hr0 hc0 h
 | none =>
  have hl : l0 = [] := by
   cases l0 with
   | nil => rfl
   | cons x l =>
    obtain ⟨ad, hA, _⟩ := hr0.2.2 (by simp)
    cases hA
  subst hl
  have hr : r = [] := by
   unfold slices_Clone_impl_Znode_impl_Znode.f at h
   simpa using h.symm
  subst hr
  refine (slices_Clone_impl_Znode_impl_Znode.calls_none c0 w).mono ?_
  rintro e w' ⟨rfl, hd⟩
  exact ⟨_, rfl, Kd.R_nil _ _ _ _ _, hd.below⟩

end Go.Proofs.YthdddcegopgopaaDoor.Qa

-- By gp.py (wip/gen of the work's repo), a program of this workplace over the kit's print: Lean checks it.
namespace Go.Proofs.YthdddcegopgopaaDoor.Qa
open Go.RowKit Go.Proofs.YthdddcegopgopaaDoorW.PrintWords Go.Proofs.YthdddcegopgopaaDoorW.PrintLast Go.Proofs.YthdddcegopgopaaDoorW.PrintMore
attribute [local go_sem] max2_int min2_int max_two min_two max_three min_three max_four min_four   -- for this text's walks alone
set_option linter.unusedVariables false
set_option linter.unusedSimpArgs false
set_option maxHeartbeats 8000000
set_option maxRecDepth 100000

/-! ### impl_DeleteZ: function 9 -/
def impl_DeleteZ.f (k : Nat) (l0 : List (S47)) (a1 : ByteArray) (a2 : Int) : Option (Int × ByteArray × (List (S47))) := (impl_zCode.f k l0 a1).bind fun t102 => (if t102 = 0 then ((impl_find.f k l0 a1).bind fun bt103 => (if a1.toList = ([47] : List UInt8) then (some (1, (⟨#[]⟩ : ByteArray), ([] : List (S47)))) else (if bt103.2 = true then (if 0 ≤ bt103.1 then (if bt103.1 < (l0.length : Int) then ((impl_isVersion.f a2 ((rd_T47 l0 bt103.1).f0) ((rd_T47 l0 bt103.1).f1) ((rd_T47 l0 bt103.1).f2) ((rd_T47 l0 bt103.1).f3) ((rd_T47 l0 bt103.1).f4)).bind fun t106 => (if t106 = true then ((impl_kids.f k l0 a1).bind fun t107 => (if (t107.length : Int) > 0 then (some (8, (⟨#[]⟩ : ByteArray), ([] : List (S47)))) else ((slices_Clone_impl_Znode_impl_Znode.f l0).bind fun t110 => ((slices_Delete_impl_Znode_impl_Znode.f t110 bt103.1 (wrap64 (bt103.1 + 1))).bind fun t113 => (some (0, (⟨#[]⟩ : ByteArray), t113)))))) else (some (7, (⟨#[]⟩ : ByteArray), ([] : List (S47)))))) else (none)) else (none)) else (some (4, (⟨#[]⟩ : ByteArray), ([] : List (S47))))))) else (some (t102, (⟨#[]⟩ : ByteArray), ([] : List (S47)))))
theorem impl_DeleteZ.mono : ∀ a0 a1 a2 k, LeO (impl_DeleteZ.f k a0 a1 a2) (impl_DeleteZ.f (k + 1) a0 a1 a2) := by
 intro a0 a1 a2 k
 unfold impl_DeleteZ.f
 repeat' first
   | (with_reducible exact impl_find.mono _ _ _)
   | (with_reducible exact impl_kids.mono _ _ _)
   | (with_reducible exact impl_zCode.mono _ _ _)
   | (with_reducible exact LeO.refl _)
   | (with_reducible exact LeO.none _)
   | (with_reducible refine LeO.ite ?_ ?_)
   | (with_reducible refine LeO.bind ?_ (fun _ => ?_))
   | exact impl_find.mono _ _ _
   | exact impl_kids.mono _ _ _
   | exact impl_zCode.mono _ _ _
   | exact LeO.none _
   | refine LeO.ite ?_ ?_
   | refine LeO.bind ?_ (fun _ => ?_)
theorem impl_DeleteZ.calls (k : Nat) (A0 : Option Addr) (c0 : Nat) (l0 : List (S47)) (a1 : ByteArray) (a2 : Int) (r1 : Int) (r2 : ByteArray) (r3 : List (S47)) (w : World) (hr0 : Kd.C k47 w A0 l0.length l0) (hc0 : l0.length ≤ c0) (h : impl_DeleteZ.f k l0 a1 a2 = some (r1, r2, r3)) :
  Calls Tryd.prog 9 #[.slice A0 l0.length c0, .string a1, .int .i64 a2] w fun e w' => ∃ v2_ : Value, e = .returned (.agg #[.int .i64 r1, .string r2, v2_]) ∧ Kd.R k47 47 w' w.heap.size (fun _ => True) v2_ r3 ∧ Below w.heap.size w w' := by
 have hu26 := Tryd.underlying26
 have hu47 := Tryd.underlying47
 have HR0 := aa hr0
 have HC0 := aa hc0
 clear hr0 hc0
 have HB := aa (Below.refl w.heap.size w)
 have H : ((impl_zCode.f k l0 a1).bind fun t102 => (if t102 = 0 then ((impl_find.f k l0 a1).bind fun bt103 => (if a1.toList = ([47] : List UInt8) then (some (1, (⟨#[]⟩ : ByteArray), ([] : List (S47)))) else (if bt103.2 = true then (if 0 ≤ bt103.1 then (if bt103.1 < (l0.length : Int) then ((impl_isVersion.f a2 ((rd_T47 l0 bt103.1).f0) ((rd_T47 l0 bt103.1).f1) ((rd_T47 l0 bt103.1).f2) ((rd_T47 l0 bt103.1).f3) ((rd_T47 l0 bt103.1).f4)).bind fun t106 => (if t106 = true then ((impl_kids.f k l0 a1).bind fun t107 => (if (t107.length : Int) > 0 then (some (8, (⟨#[]⟩ : ByteArray), ([] : List (S47)))) else ((slices_Clone_impl_Znode_impl_Znode.f l0).bind fun t110 => ((slices_Delete_impl_Znode_impl_Znode.f t110 bt103.1 (wrap64 (bt103.1 + 1))).bind fun t113 => (some (0, (⟨#[]⟩ : ByteArray), t113)))))) else (some (7, (⟨#[]⟩ : ByteArray), ([] : List (S47)))))) else (none)) else (none)) else (some (4, (⟨#[]⟩ : ByteArray), ([] : List (S47))))))) else (some (t102, (⟨#[]⟩ : ByteArray), ([] : List (S47)))))) = some (r1, r2, r3) := h
 clear h
 replace H := Option.bind_eq_some_iff.mp H
 obtain ⟨t102, A40, H⟩ := H
 replace H : (if t102 = 0 then ((impl_find.f k l0 a1).bind fun bt103 => (if a1.toList = ([47] : List UInt8) then (some (1, (⟨#[]⟩ : ByteArray), ([] : List (S47)))) else (if bt103.2 = true then (if 0 ≤ bt103.1 then (if bt103.1 < (l0.length : Int) then ((impl_isVersion.f a2 ((rd_T47 l0 bt103.1).f0) ((rd_T47 l0 bt103.1).f1) ((rd_T47 l0 bt103.1).f2) ((rd_T47 l0 bt103.1).f3) ((rd_T47 l0 bt103.1).f4)).bind fun t106 => (if t106 = true then ((impl_kids.f k l0 a1).bind fun t107 => (if (t107.length : Int) > 0 then (some (8, (⟨#[]⟩ : ByteArray), ([] : List (S47)))) else ((slices_Clone_impl_Znode_impl_Znode.f l0).bind fun t110 => ((slices_Delete_impl_Znode_impl_Znode.f t110 bt103.1 (wrap64 (bt103.1 + 1))).bind fun t113 => (some (0, (⟨#[]⟩ : ByteArray), t113)))))) else (some (7, (⟨#[]⟩ : ByteArray), ([] : List (S47)))))) else (none)) else (none)) else (some (4, (⟨#[]⟩ : ByteArray), ([] : List (S47))))))) else (some (t102, (⟨#[]⟩ : ByteArray), ([] : List (S47))))) = some (r1, r2, r3) := H
 have A4 := aa A40
 clear A40
 by_cases c5 : t102 = 0
 ·
  rw [if_pos c5] at H
  have c5b0 : (t102 == 0) = true := beq_iff_eq.mpr c5
  have c5b1 : (t102 != 0) = false := bne_eq_false_iff_eq.mpr c5
  clear c5
  replace H := Option.bind_eq_some_iff.mp H
  obtain ⟨⟨t103, t104⟩, A60, H⟩ := H
  replace H : (if a1.toList = ([47] : List UInt8) then (some (1, (⟨#[]⟩ : ByteArray), ([] : List (S47)))) else (if t104 = true then (if 0 ≤ t103 then (if t103 < (l0.length : Int) then ((impl_isVersion.f a2 ((rd_T47 l0 t103).f0) ((rd_T47 l0 t103).f1) ((rd_T47 l0 t103).f2) ((rd_T47 l0 t103).f3) ((rd_T47 l0 t103).f4)).bind fun t106 => (if t106 = true then ((impl_kids.f k l0 a1).bind fun t107 => (if (t107.length : Int) > 0 then (some (8, (⟨#[]⟩ : ByteArray), ([] : List (S47)))) else ((slices_Clone_impl_Znode_impl_Znode.f l0).bind fun t110 => ((slices_Delete_impl_Znode_impl_Znode.f t110 t103 (wrap64 (t103 + 1))).bind fun t113 => (some (0, (⟨#[]⟩ : ByteArray), t113)))))) else (some (7, (⟨#[]⟩ : ByteArray), ([] : List (S47)))))) else (none)) else (none)) else (some (4, (⟨#[]⟩ : ByteArray), ([] : List (S47)))))) = some (r1, r2, r3) := H
  have A6 := aa A60
  clear A60
  by_cases c7 : a1.toList = ([47] : List UInt8)
  ·
   rw [if_pos c7] at H
   have c7b0 : (a1.toList == ([47] : List UInt8)) = true := beq_iff_eq.mpr c7
   have c7b1 : (a1.toList != ([47] : List UInt8)) = false := bne_eq_false_iff_eq.mpr c7
   clear c7
   simp only [Option.some.injEq, Prod.mk.injEq] at H
   obtain ⟨rfl, rfl, rfl⟩ := H
   go_enter Tryd.func9, Tryd.ntmps9
   go_wp2_with (first | ((with_reducible refine gate_dst (N := 6) rfl ?_); refine box_event ?hg (N := 6) ?hd (cs := #[.int .i64 0, .string (⟨#[]⟩ : ByteArray), .slice none 0 0]) (t := 26) ?hr ?_; (case hd => rfl); (case hg => rfl); (case hr => exact zhlgcp); intro gb101 hg w8 hbox hb; have n0_ := aa (below_step zjjbob hb); have n1_ := aa (hbox); have n2_ := aa ((zkpfjp : w.heap.size ≤ gb101)); have n3_ := aa ((zkpfjp : w.heap.size ≤ gb101)); clear HB; have HB := n0_; have BK101 := n1_; have GW101 := n2_; have GE101 := n3_; clear n0_ n1_ n2_ n3_; clear hb hbox hg) | ((with_reducible refine gate_callee (f := 27) rfl ?_); refine goesL_ (some 12) rfl rfl Tryd.func27 (by kernel_rfl) rfl #[.slice A0 l0.length c0, .string a1] rfl zjnmae ?_; (with_reducible refine (impl_zCode.calls k _ _ l0 a1 t102 _ ?side1 ?side2 A4.out).mono ?_); (case side1 => exact zfmbgg); (case side2 => exact HC0.out); rintro e w9 ⟨rfl, hb⟩; refine ⟨_, rfl, ?_⟩; have n0_ := aa (blk_below (g := gb101) (o := .cells #[.int .i64 0, .string (⟨#[]⟩ : ByteArray), .slice none 0 0] 26 (0, 0)) (zkjhpm BK101.out) hb); have n1_ := aa (below_step zkmbdh hb); clear BK101; clear HB; have BK101 := n0_; have HB := n1_; clear n0_ n1_; (try clear hb); (try clear hb2); (try clear hk); (try clear hi)) | ((with_reducible refine gate_callee (f := 28) rfl ?_); refine goesL_ (some 20) rfl rfl Tryd.func28 (by kernel_rfl) rfl #[.slice A0 l0.length c0, .string a1] rfl zjnmae ?_; (with_reducible refine (impl_find.calls k _ _ l0 a1 t103 t104 _ ?side1 ?side2 A6.out).mono ?_); (case side1 => exact zfmbgg); (case side2 => exact HC0.out); rintro e w10 ⟨rfl, hb⟩; refine ⟨_, rfl, ?_⟩; have n0_ := aa (blk_below (g := gb101) (o := .cells #[.int .i64 0, .string (⟨#[]⟩ : ByteArray), .slice none 0 0] 26 (0, 0)) (zkjhpm BK101.out) hb); have n1_ := aa (below_step zkmbdh hb); clear BK101; clear HB; have BK101 := n0_; have HB := n1_; clear n0_ n1_; (try clear hb); (try clear hb2); (try clear hk); (try clear hi); have hcz11_0 : w10.cell? ⟨gb101, 0, none⟩ = some (.int .i64 0) := (blk_cell BK101.out 0).trans rfl; have hcz11_1 : w10.cell? ⟨gb101, 1, none⟩ = some (.string (⟨#[]⟩ : ByteArray)) := (blk_cell BK101.out 1).trans rfl; have hcz11_2 : w10.cell? ⟨gb101, 2, none⟩ = some (.slice none 0 0) := (blk_cell BK101.out 2).trans rfl; have hfz11_0 := blk_frozen BK101.out 0; have hfz11_1 := blk_frozen BK101.out 1; have hfz11_2 := blk_frozen BK101.out 2))
   refine bodyPost_ret (results_cell_row rfl _ _ gb101 26 #[.int .i64 1, .string (⟨#[]⟩ : ByteArray), .slice none 0 0] (0, 0) _ rfl (by (with_reducible repeat (first | refine blk_drewN ?_ _ | refine blk_drew ?_ | refine blk_alloc ?_ _)); refine blk_put (cs := #[.int .i64 1, .string (⟨#[]⟩ : ByteArray), .slice none 0 0]) ?_ 2 _ rfl; (with_reducible repeat (first | refine blk_drewN ?_ _ | refine blk_drew ?_ | refine blk_alloc ?_ _)); refine blk_put (cs := #[.int .i64 1, .string (⟨#[]⟩ : ByteArray), .slice none 0 0]) ?_ 1 _ rfl; (with_reducible repeat (first | refine blk_drewN ?_ _ | refine blk_drew ?_ | refine blk_alloc ?_ _)); refine blk_put (cs := #[.int .i64 0, .string (⟨#[]⟩ : ByteArray), .slice none 0 0]) ?_ 0 _ rfl; (with_reducible repeat (first | refine blk_drewN ?_ _ | refine blk_drew ?_ | refine blk_alloc ?_ _)); exact BK101.out) Tryd.underlying26 rfl (by kernel_rfl)) rfl ?_
   exact ⟨_, by first | rfl | (simp [errW_none, errW_some] <;> rfl) | (simp [*, errW_none, errW_some] <;> rfl), by first | exact Kd.R_nil _ _ _ _ _ | exact Kd.N_nil _ _ _ _ _ | exact Kd.V_nil _ _ _ _ _ | exact Kd.Q_nil _ _ _ _ _ | exact Kd.S_nil _ _ _ _ _, by repeat (first | (with_reducible first | exact HB.out | apply below_alloc | apply pw_below_drewN | apply below_drew1 | refine below_set ?_ GE101.out) | exact HB.out)⟩
  ·
   rw [if_neg c7] at H
   have c7b0 : (a1.toList == ([47] : List UInt8)) = false := beq_eq_false_iff_ne.mpr c7
   have c7b1 : (a1.toList != ([47] : List UInt8)) = true := bne_iff_ne.mpr c7
   by_cases c12 : t104 = true
   ·
    subst c12
    have H1 : (if 0 ≤ t103 then (if t103 < (l0.length : Int) then ((impl_isVersion.f a2 ((rd_T47 l0 t103).f0) ((rd_T47 l0 t103).f1) ((rd_T47 l0 t103).f2) ((rd_T47 l0 t103).f3) ((rd_T47 l0 t103).f4)).bind fun t106 => (if t106 = true then ((impl_kids.f k l0 a1).bind fun t107 => (if (t107.length : Int) > 0 then (some (8, (⟨#[]⟩ : ByteArray), ([] : List (S47)))) else ((slices_Clone_impl_Znode_impl_Znode.f l0).bind fun t110 => ((slices_Delete_impl_Znode_impl_Znode.f t110 t103 (wrap64 (t103 + 1))).bind fun t113 => (some (0, (⟨#[]⟩ : ByteArray), t113)))))) else (some (7, (⟨#[]⟩ : ByteArray), ([] : List (S47)))))) else (none)) else (none)) = some (r1, r2, r3) := by rw [if_pos rfl] at H; exact H
    clear H
    have H := H1
    clear H1
    by_cases c13 : 0 ≤ t103
    ·
     rw [if_pos c13] at H
     have c13b0 : decide (0 ≤ t103) = true := decide_eq_true c13
     clear c13
     by_cases c14 : t103 < (l0.length : Int)
     ·
      rw [if_pos c14] at H
      have c14b0 : decide (t103 < (l0.length : Int)) = true := decide_eq_true c14
      clear c14
      replace H := Option.bind_eq_some_iff.mp H
      obtain ⟨t106, A150, H⟩ := H
      replace H : (if t106 = true then ((impl_kids.f k l0 a1).bind fun t107 => (if (t107.length : Int) > 0 then (some (8, (⟨#[]⟩ : ByteArray), ([] : List (S47)))) else ((slices_Clone_impl_Znode_impl_Znode.f l0).bind fun t110 => ((slices_Delete_impl_Znode_impl_Znode.f t110 t103 (wrap64 (t103 + 1))).bind fun t113 => (some (0, (⟨#[]⟩ : ByteArray), t113)))))) else (some (7, (⟨#[]⟩ : ByteArray), ([] : List (S47))))) = some (r1, r2, r3) := H
      have A15 := aa A150
      clear A150
      by_cases c16 : t106 = true
      ·
       subst c16
       have H1 : ((impl_kids.f k l0 a1).bind fun t107 => (if (t107.length : Int) > 0 then (some (8, (⟨#[]⟩ : ByteArray), ([] : List (S47)))) else ((slices_Clone_impl_Znode_impl_Znode.f l0).bind fun t110 => ((slices_Delete_impl_Znode_impl_Znode.f t110 t103 (wrap64 (t103 + 1))).bind fun t113 => (some (0, (⟨#[]⟩ : ByteArray), t113)))))) = some (r1, r2, r3) := by rw [if_pos rfl] at H; exact H
       clear H
       have H := H1
       clear H1
       replace H := Option.bind_eq_some_iff.mp H
       obtain ⟨t107, A170, H⟩ := H
       replace H : (if (t107.length : Int) > 0 then (some (8, (⟨#[]⟩ : ByteArray), ([] : List (S47)))) else ((slices_Clone_impl_Znode_impl_Znode.f l0).bind fun t110 => ((slices_Delete_impl_Znode_impl_Znode.f t110 t103 (wrap64 (t103 + 1))).bind fun t113 => (some (0, (⟨#[]⟩ : ByteArray), t113))))) = some (r1, r2, r3) := H
       have A17 := aa A170
       clear A170
       by_cases c18 : (t107.length : Int) > 0
       ·
        rw [if_pos c18] at H
        have c18b0 : decide (0 < (t107.length : Int)) = true := decide_eq_true c18
        have c18b1 : decide (0 < t107.length) = true := decide_eq_true (by omega)
        clear c18
        simp only [Option.some.injEq, Prod.mk.injEq] at H
        obtain ⟨rfl, rfl, rfl⟩ := H
        go_enter Tryd.func9, Tryd.ntmps9
        go_wp2_with (first | ((with_reducible refine gate_dst (N := 6) rfl ?_); refine box_event ?hg (N := 6) ?hd (cs := #[.int .i64 0, .string (⟨#[]⟩ : ByteArray), .slice none 0 0]) (t := 26) ?hr ?_; (case hd => rfl); (case hg => rfl); (case hr => exact zhlgcp); intro gb101 hg w19 hbox hb; have n0_ := aa (below_step zjjbob hb); have n1_ := aa (hbox); have n2_ := aa ((zkpfjp : w.heap.size ≤ gb101)); have n3_ := aa ((zkpfjp : w.heap.size ≤ gb101)); clear HB; have HB := n0_; have BK101 := n1_; have GW101 := n2_; have GE101 := n3_; clear n0_ n1_ n2_ n3_; clear hb hbox hg) | ((with_reducible refine gate_callee (f := 27) rfl ?_); refine goesL_ (some 12) rfl rfl Tryd.func27 (by kernel_rfl) rfl #[.slice A0 l0.length c0, .string a1] rfl zjnmae ?_; (with_reducible refine (impl_zCode.calls k _ _ l0 a1 t102 _ ?side1 ?side2 A4.out).mono ?_); (case side1 => exact zfmbgg); (case side2 => exact HC0.out); rintro e w20 ⟨rfl, hb⟩; refine ⟨_, rfl, ?_⟩; have n0_ := aa (blk_below (g := gb101) (o := .cells #[.int .i64 0, .string (⟨#[]⟩ : ByteArray), .slice none 0 0] 26 (0, 0)) (zkjhpm BK101.out) hb); have n1_ := aa (below_step zkmbdh hb); clear BK101; clear HB; have BK101 := n0_; have HB := n1_; clear n0_ n1_; (try clear hb); (try clear hb2); (try clear hk); (try clear hi)) | ((with_reducible refine gate_callee (f := 28) rfl ?_); refine goesL_ (some 20) rfl rfl Tryd.func28 (by kernel_rfl) rfl #[.slice A0 l0.length c0, .string a1] rfl zjnmae ?_; (with_reducible refine (impl_find.calls k _ _ l0 a1 t103 true _ ?side1 ?side2 A6.out).mono ?_); (case side1 => exact zfmbgg); (case side2 => exact HC0.out); rintro e w21 ⟨rfl, hb⟩; refine ⟨_, rfl, ?_⟩; have n0_ := aa (blk_below (g := gb101) (o := .cells #[.int .i64 0, .string (⟨#[]⟩ : ByteArray), .slice none 0 0] 26 (0, 0)) (zkjhpm BK101.out) hb); have n1_ := aa (below_step zkmbdh hb); clear BK101; clear HB; have BK101 := n0_; have HB := n1_; clear n0_ n1_; (try clear hb); (try clear hb2); (try clear hk); (try clear hi); have p105 : 0 ≤ (t103 : Int) := of_decide_eq_true zgglam; have q105 : t103 < (l0.length : Int) := of_decide_eq_true zgglam; obtain ⟨ad105, e105, hx105_0, hx105_1, hx105_2, hx105_3, hx105_4⟩ := at_T47 HR0.out t103 p105 q105; cases e105; replace hx105_0 := pb HB.out hx105_0; replace hx105_1 := pb HB.out hx105_1; replace hx105_2 := pb HB.out hx105_2; replace hx105_3 := pb HB.out hx105_3; replace hx105_4 := pb HB.out hx105_4; replace p105 := eq_true p105; replace q105 := eq_true q105) | ((with_reducible refine gate_callee (f := 29) rfl ?_); refine goesL_ (some 37) rfl rfl Tryd.func29 (by kernel_rfl) rfl #[.int .i64 a2, .agg #[.string ((rd_T47 l0 t103).f0), .int .i64 ((rd_T47 l0 t103).f1), .int .i64 ((rd_T47 l0 t103).f2), .int .i64 ((rd_T47 l0 t103).f3), .int .i64 ((rd_T47 l0 t103).f4)]] rfl zjnmae ?_; (with_reducible refine (impl_isVersion.calls a2 ((rd_T47 l0 t103).f0) ((rd_T47 l0 t103).f1) ((rd_T47 l0 t103).f2) ((rd_T47 l0 t103).f3) ((rd_T47 l0 t103).f4) true _ A15.out).mono ?_); rintro e w22 ⟨rfl, hb⟩; refine ⟨_, rfl, ?_⟩; have n0_ := aa (blk_below (g := gb101) (o := .cells #[.int .i64 0, .string (⟨#[]⟩ : ByteArray), .slice none 0 0] 26 (0, 0)) (zkjhpm BK101.out) hb); have n1_ := aa (below_step zkmbdh hb); clear BK101; clear HB; have BK101 := n0_; have HB := n1_; clear n0_ n1_; (try clear hb); (try clear hb2); (try clear hk); (try clear hi)) | ((with_reducible refine gate_callee (f := 30) rfl ?_); refine goesL_ (some 43) rfl rfl Tryd.func30 (by kernel_rfl) rfl #[.slice (some ad105) l0.length c0, .string a1] rfl zjnmae ?_; (with_reducible refine (impl_kids.calls k _ _ l0 a1 t107 _ ?side1 ?side2 A17.out).mono ?_); (case side1 => exact zfmbgg); (case side2 => exact HC0.out); rintro e w23 ⟨v108, rfl, ho0, hb⟩; refine ⟨_, rfl, ?_⟩; have n0_ := aa (Kd.R_lower ho0 (below_size zkmbdh)); have n1_ := aa (blk_below (g := gb101) (o := .cells #[.int .i64 0, .string (⟨#[]⟩ : ByteArray), .slice none 0 0] 26 (0, 0)) (zkjhpm BK101.out) hb); have n2_ := aa (below_step zkmbdh hb); clear BK101; clear HB; have HO109 := n0_; have BK101 := n1_; have HB := n2_; clear n0_ n1_ n2_; (try clear hb); (try clear hb2); (try clear hk); (try clear hi); (try clear ho0); obtain ⟨Ao24, co24, eo24⟩ := Kd.R_slice HO109.out; subst eo24; have hcz25_0 : w23.cell? ⟨gb101, 0, none⟩ = some (.int .i64 0) := (blk_cell BK101.out 0).trans rfl; have hcz25_1 : w23.cell? ⟨gb101, 1, none⟩ = some (.string (⟨#[]⟩ : ByteArray)) := (blk_cell BK101.out 1).trans rfl; have hcz25_2 : w23.cell? ⟨gb101, 2, none⟩ = some (.slice none 0 0) := (blk_cell BK101.out 2).trans rfl; have hfz25_0 := blk_frozen BK101.out 0; have hfz25_1 := blk_frozen BK101.out 1; have hfz25_2 := blk_frozen BK101.out 2))
        refine bodyPost_ret (results_cell_row rfl _ _ gb101 26 #[.int .i64 8, .string (⟨#[]⟩ : ByteArray), .slice none 0 0] (0, 0) _ rfl (by (with_reducible repeat (first | refine blk_drewN ?_ _ | refine blk_drew ?_ | refine blk_alloc ?_ _)); refine blk_put (cs := #[.int .i64 8, .string (⟨#[]⟩ : ByteArray), .slice none 0 0]) ?_ 2 _ rfl; (with_reducible repeat (first | refine blk_drewN ?_ _ | refine blk_drew ?_ | refine blk_alloc ?_ _)); refine blk_put (cs := #[.int .i64 8, .string (⟨#[]⟩ : ByteArray), .slice none 0 0]) ?_ 1 _ rfl; (with_reducible repeat (first | refine blk_drewN ?_ _ | refine blk_drew ?_ | refine blk_alloc ?_ _)); refine blk_put (cs := #[.int .i64 0, .string (⟨#[]⟩ : ByteArray), .slice none 0 0]) ?_ 0 _ rfl; (with_reducible repeat (first | refine blk_drewN ?_ _ | refine blk_drew ?_ | refine blk_alloc ?_ _)); exact BK101.out) Tryd.underlying26 rfl (by kernel_rfl)) rfl ?_
        exact ⟨_, by first | rfl | (simp [errW_none, errW_some] <;> rfl) | (simp [*, errW_none, errW_some] <;> rfl), by first | exact Kd.R_nil _ _ _ _ _ | exact Kd.N_nil _ _ _ _ _ | exact Kd.V_nil _ _ _ _ _ | exact Kd.Q_nil _ _ _ _ _ | exact Kd.S_nil _ _ _ _ _, by repeat (first | (with_reducible first | exact HB.out | apply below_alloc | apply pw_below_drewN | apply below_drew1 | refine below_set ?_ GE101.out) | exact HB.out)⟩
       ·
        rw [if_neg c18] at H
        have c18b0 : decide (0 < (t107.length : Int)) = false := decide_eq_false c18
        have c18b1 : decide (0 < t107.length) = false := decide_eq_false (by omega)
        clear c18
        replace H := Option.bind_eq_some_iff.mp H
        obtain ⟨t110, A260, H⟩ := H
        replace H : ((slices_Delete_impl_Znode_impl_Znode.f t110 t103 (wrap64 (t103 + 1))).bind fun t113 => (some (0, (⟨#[]⟩ : ByteArray), t113))) = some (r1, r2, r3) := H
        have A26 := aa A260
        clear A260
        replace H := Option.bind_eq_some_iff.mp H
        obtain ⟨t113, A270, H⟩ := H
        replace H : (some (0, (⟨#[]⟩ : ByteArray), t113)) = some (r1, r2, r3) := H
        have A27 := aa A270
        clear A270
        simp only [Option.some.injEq, Prod.mk.injEq] at H
        obtain ⟨rfl, rfl, rfl⟩ := H
        go_enter Tryd.func9, Tryd.ntmps9
        go_wp2_with (first | ((with_reducible refine gate_dst (N := 6) rfl ?_); refine box_event ?hg (N := 6) ?hd (cs := #[.int .i64 0, .string (⟨#[]⟩ : ByteArray), .slice none 0 0]) (t := 26) ?hr ?_; (case hd => rfl); (case hg => rfl); (case hr => exact zhlgcp); intro gb101 hg w28 hbox hb; have n0_ := aa (below_step zjjbob hb); have n1_ := aa (hbox); have n2_ := aa ((zkpfjp : w.heap.size ≤ gb101)); have n3_ := aa ((zkpfjp : w.heap.size ≤ gb101)); clear HB; have HB := n0_; have BK101 := n1_; have GW101 := n2_; have GE101 := n3_; clear n0_ n1_ n2_ n3_; clear hb hbox hg) | ((with_reducible refine gate_callee (f := 27) rfl ?_); refine goesL_ (some 12) rfl rfl Tryd.func27 (by kernel_rfl) rfl #[.slice A0 l0.length c0, .string a1] rfl zjnmae ?_; (with_reducible refine (impl_zCode.calls k _ _ l0 a1 t102 _ ?side1 ?side2 A4.out).mono ?_); (case side1 => exact zfmbgg); (case side2 => exact HC0.out); rintro e w29 ⟨rfl, hb⟩; refine ⟨_, rfl, ?_⟩; have n0_ := aa (blk_below (g := gb101) (o := .cells #[.int .i64 0, .string (⟨#[]⟩ : ByteArray), .slice none 0 0] 26 (0, 0)) (zkjhpm BK101.out) hb); have n1_ := aa (below_step zkmbdh hb); clear BK101; clear HB; have BK101 := n0_; have HB := n1_; clear n0_ n1_; (try clear hb); (try clear hb2); (try clear hk); (try clear hi)) | ((with_reducible refine gate_callee (f := 28) rfl ?_); refine goesL_ (some 20) rfl rfl Tryd.func28 (by kernel_rfl) rfl #[.slice A0 l0.length c0, .string a1] rfl zjnmae ?_; (with_reducible refine (impl_find.calls k _ _ l0 a1 t103 true _ ?side1 ?side2 A6.out).mono ?_); (case side1 => exact zfmbgg); (case side2 => exact HC0.out); rintro e w30 ⟨rfl, hb⟩; refine ⟨_, rfl, ?_⟩; have n0_ := aa (blk_below (g := gb101) (o := .cells #[.int .i64 0, .string (⟨#[]⟩ : ByteArray), .slice none 0 0] 26 (0, 0)) (zkjhpm BK101.out) hb); have n1_ := aa (below_step zkmbdh hb); clear BK101; clear HB; have BK101 := n0_; have HB := n1_; clear n0_ n1_; (try clear hb); (try clear hb2); (try clear hk); (try clear hi); have p105 : 0 ≤ (t103 : Int) := of_decide_eq_true zgglam; have q105 : t103 < (l0.length : Int) := of_decide_eq_true zgglam; obtain ⟨ad105, e105, hx105_0, hx105_1, hx105_2, hx105_3, hx105_4⟩ := at_T47 HR0.out t103 p105 q105; cases e105; replace hx105_0 := pb HB.out hx105_0; replace hx105_1 := pb HB.out hx105_1; replace hx105_2 := pb HB.out hx105_2; replace hx105_3 := pb HB.out hx105_3; replace hx105_4 := pb HB.out hx105_4; replace p105 := eq_true p105; replace q105 := eq_true q105) | ((with_reducible refine gate_callee (f := 29) rfl ?_); refine goesL_ (some 37) rfl rfl Tryd.func29 (by kernel_rfl) rfl #[.int .i64 a2, .agg #[.string ((rd_T47 l0 t103).f0), .int .i64 ((rd_T47 l0 t103).f1), .int .i64 ((rd_T47 l0 t103).f2), .int .i64 ((rd_T47 l0 t103).f3), .int .i64 ((rd_T47 l0 t103).f4)]] rfl zjnmae ?_; (with_reducible refine (impl_isVersion.calls a2 ((rd_T47 l0 t103).f0) ((rd_T47 l0 t103).f1) ((rd_T47 l0 t103).f2) ((rd_T47 l0 t103).f3) ((rd_T47 l0 t103).f4) true _ A15.out).mono ?_); rintro e w31 ⟨rfl, hb⟩; refine ⟨_, rfl, ?_⟩; have n0_ := aa (blk_below (g := gb101) (o := .cells #[.int .i64 0, .string (⟨#[]⟩ : ByteArray), .slice none 0 0] 26 (0, 0)) (zkjhpm BK101.out) hb); have n1_ := aa (below_step zkmbdh hb); clear BK101; clear HB; have BK101 := n0_; have HB := n1_; clear n0_ n1_; (try clear hb); (try clear hb2); (try clear hk); (try clear hi)) | ((with_reducible refine gate_callee (f := 30) rfl ?_); refine goesL_ (some 43) rfl rfl Tryd.func30 (by kernel_rfl) rfl #[.slice (some ad105) l0.length c0, .string a1] rfl zjnmae ?_; (with_reducible refine (impl_kids.calls k _ _ l0 a1 t107 _ ?side1 ?side2 A17.out).mono ?_); (case side1 => exact zfmbgg); (case side2 => exact HC0.out); rintro e w32 ⟨v108, rfl, ho0, hb⟩; refine ⟨_, rfl, ?_⟩; have n0_ := aa (Kd.R_lower ho0 (below_size zkmbdh)); have n1_ := aa (blk_below (g := gb101) (o := .cells #[.int .i64 0, .string (⟨#[]⟩ : ByteArray), .slice none 0 0] 26 (0, 0)) (zkjhpm BK101.out) hb); have n2_ := aa (below_step zkmbdh hb); clear BK101; clear HB; have HO109 := n0_; have BK101 := n1_; have HB := n2_; clear n0_ n1_ n2_; (try clear hb); (try clear hb2); (try clear hk); (try clear hi); (try clear ho0); obtain ⟨Ao33, co33, eo33⟩ := Kd.R_slice HO109.out; subst eo33) | ((with_reducible refine gate_callee (f := 32) rfl ?_); refine goesL_ (some 48) rfl rfl Tryd.func32 (by kernel_rfl) rfl #[.slice (some ad105) l0.length c0] rfl zjnmae ?_; (with_reducible refine (slices_Clone_impl_Znode_impl_Znode.calls _ _ l0 t110 _ ?side1 ?side2 A26.out).mono ?_); (case side1 => exact zfmbgg); (case side2 => exact HC0.out); rintro e w34 ⟨v111, rfl, ho0, hb⟩; refine ⟨_, rfl, ?_⟩; have n0_ := aa (Kd.R_below (zcaken HO109.out) hb); have n1_ := aa (Kd.R_lower ho0 (below_size zkmbdh)); have n2_ := aa (blk_below (g := gb101) (o := .cells #[.int .i64 0, .string (⟨#[]⟩ : ByteArray), .slice none 0 0] 26 (0, 0)) (zkjhpm BK101.out) hb); have n3_ := aa (below_step zkmbdh hb); clear HO109; clear BK101; clear HB; have HO109 := n0_; have HO112 := n1_; have BK101 := n2_; have HB := n3_; clear n0_ n1_ n2_ n3_; (try clear hb); (try clear hb2); (try clear hk); (try clear hi); (try clear ho0); obtain ⟨Ao35, co35, eo35⟩ := Kd.R_slice HO112.out; subst eo35) | ((with_reducible refine gate_callee (f := 31) rfl ?_); refine goesL_ (some 52) rfl rfl Tryd.func31 (by kernel_rfl) rfl #[.slice Ao35 t110.length co35, .int .i64 t103, .int .i64 (wrap64 (t103 + 1))] rfl zjnmae ?_; (with_reducible refine (slices_Delete_impl_Znode_impl_Znode.calls (fun k_ => some k_ = (.slice Ao35 t110.length co35 : Value).ownBlock) (.slice Ao35 t110.length co35) t110 t103 (wrap64 (t103 + 1)) t113 w _ ?side1 ?side2 A27.out).mono ?_); (case side1 => exact zkmbdh); (case side2 => exact Kd.R_tight rfl HO112.out); rintro e w36 ⟨v114, rfl, ho0, hb, hkp⟩; refine ⟨_, rfl, ?_⟩; have n0_ := aa (blk_kept (zkjhpm BK101.out) hkp (fun hs_ => (fun e_ => (Kd.R_ne HO112.out BK101.out (by decide)) e_) hs_)); have n1_ := aa (Kd.R_mono (ok' := fun k_ => True) (Kd.R_keptB ((Kd.R_apart' HO109.out (Kd.R_typed HO112.out) (by decide))) hkp (fun k_ hk_ hs_ => (hk_.2) hs_)) (fun k_ hk_ => trivial)); have n2_ := aa (Kd.R_mono (ok' := fun k_ => True) ho0 (fun k_ hk_ => trivial)); have n3_ := aa (hb); clear BK101; clear HO109; clear HB; clear HO112; have BK101 := n0_; have HO109 := n1_; have HO115 := n2_; have HB := n3_; clear n0_ n1_ n2_ n3_; (try clear hb); (try clear hkp); (try clear ho0); obtain ⟨Ao37, co37, eo37⟩ := Kd.R_slice HO115.out; subst eo37; have hcz38_0 : w36.cell? ⟨gb101, 0, none⟩ = some (.int .i64 0) := (blk_cell BK101.out 0).trans rfl; have hcz38_1 : w36.cell? ⟨gb101, 1, none⟩ = some (.string (⟨#[]⟩ : ByteArray)) := (blk_cell BK101.out 1).trans rfl; have hcz38_2 : w36.cell? ⟨gb101, 2, none⟩ = some (.slice none 0 0) := (blk_cell BK101.out 2).trans rfl; have hfz38_0 := blk_frozen BK101.out 0; have hfz38_1 := blk_frozen BK101.out 1; have hfz38_2 := blk_frozen BK101.out 2))
        refine bodyPost_ret (results_cell_row rfl _ _ gb101 26 #[.int .i64 0, .string (⟨#[]⟩ : ByteArray), .slice Ao37 t113.length co37] (0, 0) _ rfl zkhiid Tryd.underlying26 rfl (by kernel_rfl)) rfl ?_
        exact ⟨_, by first | rfl | (simp [errW_none, errW_some] <;> rfl) | (simp [*, errW_none, errW_some] <;> rfl), by (with_reducible repeat (first | apply Kd.R_alloc | apply Kd.R_drewN | apply Kd.R_drew)); exact Kd.R_mono (Kd.R_far (p := ⟨gb101, 2, none⟩) (Kd.R_far (p := ⟨gb101, 1, none⟩) (Kd.R_far (p := ⟨gb101, 0, none⟩) (Kd.R_types HO115.out BK101.out (by decide)) (fun _ hk => hk.2) (.int .i64 0)) (fun _ hk => hk.2) (.string (⟨#[]⟩ : ByteArray))) (fun _ hk => hk.2) (.slice Ao37 t113.length co37)) (fun _ hk => trivial), by repeat (first | (with_reducible first | exact HB.out | apply below_alloc | apply pw_below_drewN | apply below_drew1 | refine below_set ?_ GE101.out) | exact HB.out)⟩
      ·
       replace c16 := Bool.eq_false_iff.mpr c16
       subst c16
       have H1 : (some (7, (⟨#[]⟩ : ByteArray), ([] : List (S47)))) = some (r1, r2, r3) := by rw [if_neg (show ¬ (false = true) by decide)] at H; exact H
       clear H
       have H := H1
       clear H1
       simp only [Option.some.injEq, Prod.mk.injEq] at H
       obtain ⟨rfl, rfl, rfl⟩ := H
       go_enter Tryd.func9, Tryd.ntmps9
       go_wp2_with (first | ((with_reducible refine gate_dst (N := 6) rfl ?_); refine box_event ?hg (N := 6) ?hd (cs := #[.int .i64 0, .string (⟨#[]⟩ : ByteArray), .slice none 0 0]) (t := 26) ?hr ?_; (case hd => rfl); (case hg => rfl); (case hr => exact zhlgcp); intro gb101 hg w39 hbox hb; have n0_ := aa (below_step zjjbob hb); have n1_ := aa (hbox); have n2_ := aa ((zkpfjp : w.heap.size ≤ gb101)); have n3_ := aa ((zkpfjp : w.heap.size ≤ gb101)); clear HB; have HB := n0_; have BK101 := n1_; have GW101 := n2_; have GE101 := n3_; clear n0_ n1_ n2_ n3_; clear hb hbox hg) | ((with_reducible refine gate_callee (f := 27) rfl ?_); refine goesL_ (some 12) rfl rfl Tryd.func27 (by kernel_rfl) rfl #[.slice A0 l0.length c0, .string a1] rfl zjnmae ?_; (with_reducible refine (impl_zCode.calls k _ _ l0 a1 t102 _ ?side1 ?side2 A4.out).mono ?_); (case side1 => exact zfmbgg); (case side2 => exact HC0.out); rintro e w40 ⟨rfl, hb⟩; refine ⟨_, rfl, ?_⟩; have n0_ := aa (blk_below (g := gb101) (o := .cells #[.int .i64 0, .string (⟨#[]⟩ : ByteArray), .slice none 0 0] 26 (0, 0)) (zkjhpm BK101.out) hb); have n1_ := aa (below_step zkmbdh hb); clear BK101; clear HB; have BK101 := n0_; have HB := n1_; clear n0_ n1_; (try clear hb); (try clear hb2); (try clear hk); (try clear hi)) | ((with_reducible refine gate_callee (f := 28) rfl ?_); refine goesL_ (some 20) rfl rfl Tryd.func28 (by kernel_rfl) rfl #[.slice A0 l0.length c0, .string a1] rfl zjnmae ?_; (with_reducible refine (impl_find.calls k _ _ l0 a1 t103 true _ ?side1 ?side2 A6.out).mono ?_); (case side1 => exact zfmbgg); (case side2 => exact HC0.out); rintro e w41 ⟨rfl, hb⟩; refine ⟨_, rfl, ?_⟩; have n0_ := aa (blk_below (g := gb101) (o := .cells #[.int .i64 0, .string (⟨#[]⟩ : ByteArray), .slice none 0 0] 26 (0, 0)) (zkjhpm BK101.out) hb); have n1_ := aa (below_step zkmbdh hb); clear BK101; clear HB; have BK101 := n0_; have HB := n1_; clear n0_ n1_; (try clear hb); (try clear hb2); (try clear hk); (try clear hi); have p105 : 0 ≤ (t103 : Int) := of_decide_eq_true zgglam; have q105 : t103 < (l0.length : Int) := of_decide_eq_true zgglam; obtain ⟨ad105, e105, hx105_0, hx105_1, hx105_2, hx105_3, hx105_4⟩ := at_T47 HR0.out t103 p105 q105; cases e105; replace hx105_0 := pb HB.out hx105_0; replace hx105_1 := pb HB.out hx105_1; replace hx105_2 := pb HB.out hx105_2; replace hx105_3 := pb HB.out hx105_3; replace hx105_4 := pb HB.out hx105_4; replace p105 := eq_true p105; replace q105 := eq_true q105) | ((with_reducible refine gate_callee (f := 29) rfl ?_); refine goesL_ (some 37) rfl rfl Tryd.func29 (by kernel_rfl) rfl #[.int .i64 a2, .agg #[.string ((rd_T47 l0 t103).f0), .int .i64 ((rd_T47 l0 t103).f1), .int .i64 ((rd_T47 l0 t103).f2), .int .i64 ((rd_T47 l0 t103).f3), .int .i64 ((rd_T47 l0 t103).f4)]] rfl zjnmae ?_; (with_reducible refine (impl_isVersion.calls a2 ((rd_T47 l0 t103).f0) ((rd_T47 l0 t103).f1) ((rd_T47 l0 t103).f2) ((rd_T47 l0 t103).f3) ((rd_T47 l0 t103).f4) false _ A15.out).mono ?_); rintro e w42 ⟨rfl, hb⟩; refine ⟨_, rfl, ?_⟩; have n0_ := aa (blk_below (g := gb101) (o := .cells #[.int .i64 0, .string (⟨#[]⟩ : ByteArray), .slice none 0 0] 26 (0, 0)) (zkjhpm BK101.out) hb); have n1_ := aa (below_step zkmbdh hb); clear BK101; clear HB; have BK101 := n0_; have HB := n1_; clear n0_ n1_; (try clear hb); (try clear hb2); (try clear hk); (try clear hi); have hcz43_0 : w42.cell? ⟨gb101, 0, none⟩ = some (.int .i64 0) := (blk_cell BK101.out 0).trans rfl; have hcz43_1 : w42.cell? ⟨gb101, 1, none⟩ = some (.string (⟨#[]⟩ : ByteArray)) := (blk_cell BK101.out 1).trans rfl; have hcz43_2 : w42.cell? ⟨gb101, 2, none⟩ = some (.slice none 0 0) := (blk_cell BK101.out 2).trans rfl; have hfz43_0 := blk_frozen BK101.out 0; have hfz43_1 := blk_frozen BK101.out 1; have hfz43_2 := blk_frozen BK101.out 2))
       refine bodyPost_ret (results_cell_row rfl _ _ gb101 26 #[.int .i64 7, .string (⟨#[]⟩ : ByteArray), .slice none 0 0] (0, 0) _ rfl (by (with_reducible repeat (first | refine blk_drewN ?_ _ | refine blk_drew ?_ | refine blk_alloc ?_ _)); refine blk_put (cs := #[.int .i64 7, .string (⟨#[]⟩ : ByteArray), .slice none 0 0]) ?_ 2 _ rfl; (with_reducible repeat (first | refine blk_drewN ?_ _ | refine blk_drew ?_ | refine blk_alloc ?_ _)); refine blk_put (cs := #[.int .i64 7, .string (⟨#[]⟩ : ByteArray), .slice none 0 0]) ?_ 1 _ rfl; (with_reducible repeat (first | refine blk_drewN ?_ _ | refine blk_drew ?_ | refine blk_alloc ?_ _)); refine blk_put (cs := #[.int .i64 0, .string (⟨#[]⟩ : ByteArray), .slice none 0 0]) ?_ 0 _ rfl; (with_reducible repeat (first | refine blk_drewN ?_ _ | refine blk_drew ?_ | refine blk_alloc ?_ _)); exact BK101.out) Tryd.underlying26 rfl (by kernel_rfl)) rfl ?_
       exact ⟨_, by first | rfl | (simp [errW_none, errW_some] <;> rfl) | (simp [*, errW_none, errW_some] <;> rfl), by first | exact Kd.R_nil _ _ _ _ _ | exact Kd.N_nil _ _ _ _ _ | exact Kd.V_nil _ _ _ _ _ | exact Kd.Q_nil _ _ _ _ _ | exact Kd.S_nil _ _ _ _ _, by repeat (first | (with_reducible first | exact HB.out | apply below_alloc | apply pw_below_drewN | apply below_drew1 | refine below_set ?_ GE101.out) | exact HB.out)⟩
     ·
      rw [if_neg c14] at H
      exact absurd H (by simp)
    ·
     rw [if_neg c13] at H
     exact absurd H (by simp)
   ·
    replace c12 := Bool.eq_false_iff.mpr c12
    subst c12
    have H1 : (some (4, (⟨#[]⟩ : ByteArray), ([] : List (S47)))) = some (r1, r2, r3) := by rw [if_neg (show ¬ (false = true) by decide)] at H; exact H
    clear H
    have H := H1
    clear H1
    simp only [Option.some.injEq, Prod.mk.injEq] at H
    obtain ⟨rfl, rfl, rfl⟩ := H
    go_enter Tryd.func9, Tryd.ntmps9
    go_wp2_with (first | ((with_reducible refine gate_dst (N := 6) rfl ?_); refine box_event ?hg (N := 6) ?hd (cs := #[.int .i64 0, .string (⟨#[]⟩ : ByteArray), .slice none 0 0]) (t := 26) ?hr ?_; (case hd => rfl); (case hg => rfl); (case hr => exact zhlgcp); intro gb101 hg w44 hbox hb; have n0_ := aa (below_step zjjbob hb); have n1_ := aa (hbox); have n2_ := aa ((zkpfjp : w.heap.size ≤ gb101)); have n3_ := aa ((zkpfjp : w.heap.size ≤ gb101)); clear HB; have HB := n0_; have BK101 := n1_; have GW101 := n2_; have GE101 := n3_; clear n0_ n1_ n2_ n3_; clear hb hbox hg) | ((with_reducible refine gate_callee (f := 27) rfl ?_); refine goesL_ (some 12) rfl rfl Tryd.func27 (by kernel_rfl) rfl #[.slice A0 l0.length c0, .string a1] rfl zjnmae ?_; (with_reducible refine (impl_zCode.calls k _ _ l0 a1 t102 _ ?side1 ?side2 A4.out).mono ?_); (case side1 => exact zfmbgg); (case side2 => exact HC0.out); rintro e w45 ⟨rfl, hb⟩; refine ⟨_, rfl, ?_⟩; have n0_ := aa (blk_below (g := gb101) (o := .cells #[.int .i64 0, .string (⟨#[]⟩ : ByteArray), .slice none 0 0] 26 (0, 0)) (zkjhpm BK101.out) hb); have n1_ := aa (below_step zkmbdh hb); clear BK101; clear HB; have BK101 := n0_; have HB := n1_; clear n0_ n1_; (try clear hb); (try clear hb2); (try clear hk); (try clear hi)) | ((with_reducible refine gate_callee (f := 28) rfl ?_); refine goesL_ (some 20) rfl rfl Tryd.func28 (by kernel_rfl) rfl #[.slice A0 l0.length c0, .string a1] rfl zjnmae ?_; (with_reducible refine (impl_find.calls k _ _ l0 a1 t103 false _ ?side1 ?side2 A6.out).mono ?_); (case side1 => exact zfmbgg); (case side2 => exact HC0.out); rintro e w46 ⟨rfl, hb⟩; refine ⟨_, rfl, ?_⟩; have n0_ := aa (blk_below (g := gb101) (o := .cells #[.int .i64 0, .string (⟨#[]⟩ : ByteArray), .slice none 0 0] 26 (0, 0)) (zkjhpm BK101.out) hb); have n1_ := aa (below_step zkmbdh hb); clear BK101; clear HB; have BK101 := n0_; have HB := n1_; clear n0_ n1_; (try clear hb); (try clear hb2); (try clear hk); (try clear hi); have hcz47_0 : w46.cell? ⟨gb101, 0, none⟩ = some (.int .i64 0) := (blk_cell BK101.out 0).trans rfl; have hcz47_1 : w46.cell? ⟨gb101, 1, none⟩ = some (.string (⟨#[]⟩ : ByteArray)) := (blk_cell BK101.out 1).trans rfl; have hcz47_2 : w46.cell? ⟨gb101, 2, none⟩ = some (.slice none 0 0) := (blk_cell BK101.out 2).trans rfl; have hfz47_0 := blk_frozen BK101.out 0; have hfz47_1 := blk_frozen BK101.out 1; have hfz47_2 := blk_frozen BK101.out 2))
    refine bodyPost_ret (results_cell_row rfl _ _ gb101 26 #[.int .i64 4, .string (⟨#[]⟩ : ByteArray), .slice none 0 0] (0, 0) _ rfl (by (with_reducible repeat (first | refine blk_drewN ?_ _ | refine blk_drew ?_ | refine blk_alloc ?_ _)); refine blk_put (cs := #[.int .i64 4, .string (⟨#[]⟩ : ByteArray), .slice none 0 0]) ?_ 2 _ rfl; (with_reducible repeat (first | refine blk_drewN ?_ _ | refine blk_drew ?_ | refine blk_alloc ?_ _)); refine blk_put (cs := #[.int .i64 4, .string (⟨#[]⟩ : ByteArray), .slice none 0 0]) ?_ 1 _ rfl; (with_reducible repeat (first | refine blk_drewN ?_ _ | refine blk_drew ?_ | refine blk_alloc ?_ _)); refine blk_put (cs := #[.int .i64 0, .string (⟨#[]⟩ : ByteArray), .slice none 0 0]) ?_ 0 _ rfl; (with_reducible repeat (first | refine blk_drewN ?_ _ | refine blk_drew ?_ | refine blk_alloc ?_ _)); exact BK101.out) Tryd.underlying26 rfl (by kernel_rfl)) rfl ?_
    exact ⟨_, by first | rfl | (simp [errW_none, errW_some] <;> rfl) | (simp [*, errW_none, errW_some] <;> rfl), by first | exact Kd.R_nil _ _ _ _ _ | exact Kd.N_nil _ _ _ _ _ | exact Kd.V_nil _ _ _ _ _ | exact Kd.Q_nil _ _ _ _ _ | exact Kd.S_nil _ _ _ _ _, by repeat (first | (with_reducible first | exact HB.out | apply below_alloc | apply pw_below_drewN | apply below_drew1 | refine below_set ?_ GE101.out) | exact HB.out)⟩
 ·
  rw [if_neg c5] at H
  have c5b0 : (t102 == 0) = false := beq_eq_false_iff_ne.mpr c5
  have c5b1 : (t102 != 0) = true := bne_iff_ne.mpr c5
  simp only [Option.some.injEq, Prod.mk.injEq] at H
  obtain ⟨rfl, rfl, rfl⟩ := H
  go_enter Tryd.func9, Tryd.ntmps9
  go_wp2_with (first | ((with_reducible refine gate_dst (N := 6) rfl ?_); refine box_event ?hg (N := 6) ?hd (cs := #[.int .i64 0, .string (⟨#[]⟩ : ByteArray), .slice none 0 0]) (t := 26) ?hr ?_; (case hd => rfl); (case hg => rfl); (case hr => exact zhlgcp); intro gb101 hg w48 hbox hb; have n0_ := aa (below_step zjjbob hb); have n1_ := aa (hbox); have n2_ := aa ((zkpfjp : w.heap.size ≤ gb101)); have n3_ := aa ((zkpfjp : w.heap.size ≤ gb101)); clear HB; have HB := n0_; have BK101 := n1_; have GW101 := n2_; have GE101 := n3_; clear n0_ n1_ n2_ n3_; clear hb hbox hg) | ((with_reducible refine gate_callee (f := 27) rfl ?_); refine goesL_ (some 12) rfl rfl Tryd.func27 (by kernel_rfl) rfl #[.slice A0 l0.length c0, .string a1] rfl zjnmae ?_; (with_reducible refine (impl_zCode.calls k _ _ l0 a1 t102 _ ?side1 ?side2 A4.out).mono ?_); (case side1 => exact zfmbgg); (case side2 => exact HC0.out); rintro e w49 ⟨rfl, hb⟩; refine ⟨_, rfl, ?_⟩; have n0_ := aa (blk_below (g := gb101) (o := .cells #[.int .i64 0, .string (⟨#[]⟩ : ByteArray), .slice none 0 0] 26 (0, 0)) (zkjhpm BK101.out) hb); have n1_ := aa (below_step zkmbdh hb); clear BK101; clear HB; have BK101 := n0_; have HB := n1_; clear n0_ n1_; (try clear hb); (try clear hb2); (try clear hk); (try clear hi); have hcz50_0 : w49.cell? ⟨gb101, 0, none⟩ = some (.int .i64 0) := (blk_cell BK101.out 0).trans rfl; have hcz50_1 : w49.cell? ⟨gb101, 1, none⟩ = some (.string (⟨#[]⟩ : ByteArray)) := (blk_cell BK101.out 1).trans rfl; have hcz50_2 : w49.cell? ⟨gb101, 2, none⟩ = some (.slice none 0 0) := (blk_cell BK101.out 2).trans rfl; have hfz50_0 := blk_frozen BK101.out 0; have hfz50_1 := blk_frozen BK101.out 1; have hfz50_2 := blk_frozen BK101.out 2))
  refine bodyPost_ret (results_cell_row rfl _ _ gb101 26 #[.int .i64 t102, .string (⟨#[]⟩ : ByteArray), .slice none 0 0] (0, 0) _ rfl (by (with_reducible repeat (first | refine blk_drewN ?_ _ | refine blk_drew ?_ | refine blk_alloc ?_ _)); refine blk_put (cs := #[.int .i64 t102, .string (⟨#[]⟩ : ByteArray), .slice none 0 0]) ?_ 2 _ rfl; (with_reducible repeat (first | refine blk_drewN ?_ _ | refine blk_drew ?_ | refine blk_alloc ?_ _)); refine blk_put (cs := #[.int .i64 t102, .string (⟨#[]⟩ : ByteArray), .slice none 0 0]) ?_ 1 _ rfl; (with_reducible repeat (first | refine blk_drewN ?_ _ | refine blk_drew ?_ | refine blk_alloc ?_ _)); refine blk_put (cs := #[.int .i64 0, .string (⟨#[]⟩ : ByteArray), .slice none 0 0]) ?_ 0 _ rfl; (with_reducible repeat (first | refine blk_drewN ?_ _ | refine blk_drew ?_ | refine blk_alloc ?_ _)); exact BK101.out) Tryd.underlying26 rfl (by kernel_rfl)) rfl ?_
  exact ⟨_, by first | rfl | (simp [errW_none, errW_some] <;> rfl) | (simp [*, errW_none, errW_some] <;> rfl), by first | exact Kd.R_nil _ _ _ _ _ | exact Kd.N_nil _ _ _ _ _ | exact Kd.V_nil _ _ _ _ _ | exact Kd.Q_nil _ _ _ _ _ | exact Kd.S_nil _ _ _ _ _, by repeat (first | (with_reducible first | exact HB.out | apply below_alloc | apply pw_below_drewN | apply below_drew1 | refine below_set ?_ GE101.out) | exact HB.out)⟩

end Go.Proofs.YthdddcegopgopaaDoor.Qa
