/- A part of the proof that for every input the law FnOwned returns true: no condition. Functions of the translation, each proved to do what a plain Lean function tells, and what these tell. -/
import Derived.Test.YtajlnffefoeppaaDoorQax0
import Derived.Test.YtajlnffefoeppaaDoorQax3
import Derived.Test.YtajlnffefoeppaaDoorQax5
import Derived.Test.YtajlnffefoeppaaDoorQax6
import Derived.Test.YtajlnffefoeppaaDoorQax7
import Derived.Test.YtajlnffefoeppaaDoorQax8
import Derived.Test.YtajlnffefoeppaaDoorQax9
import Derived.Test.YtajlnffefoeppaaDoorQax10
import Derived.Test.YtajlnffefoeppaaDoorQax12
import Derived.Test.YtajlnffefoeppaaDoorZFnOwneda
namespace Go.Proofs.YtajlnffefoeppaaDoor.Qa
open Go.RowKit Go.Proofs.YtajlnffefoeppaaDoorW.PrintWords Go.Proofs.YtajlnffefoeppaaDoorW.PrintLast Go.Proofs.YtajlnffefoeppaaDoorW.PrintMore
attribute [local go_sem] max2_int min2_int max_two min_two max_three min_three max_four min_four
set_option linter.unusedVariables false
set_option linter.unusedSimpArgs false
set_option maxHeartbeats 8000000
set_option maxRecDepth 100000
/-! ### spec_l2Put: function 79 -/
def spec_l2Put.l0 : Nat → List (S44) → Int → ByteArray → Int → Int → Int → Int → Option ((List (S44)))
 | 0, _, _, _, _, _, _, _ => none
 | k + 1, x0, x5, x102000, x102001, x102002, x102003, x102004 => if x5 < (x0.length : Int) then (if 0 ≤ x5 then (if (Op.bytesLess (((rd_T44 x0 x5).f0).toList) x102000.toList) = true then (spec_l2Put.l0 k x0 (wrap64 (x5 + 1)) x102000 x102001 x102002 x102003 x102004) else ((some (([] : List (S44)) : List (S44))).bind fun y103 => (if x5 ≤ (x0.length : Int) then ((some (x0.take (x5 : Int).toNat : List (S44))).bind fun y106 => (if y103.length + y106.length < 2932031007402 then ((some (y103 ++ y106 : List (S44))).bind fun y110 => (if y110.length < 2932031007402 then ((some (y110 ++ [(⟨x102000, x102001, x102002, x102003, x102004⟩ : S44)] : List (S44))).bind fun y113 => ((some (x0.drop (x5 : Int).toNat : List (S44))).bind fun y116 => (if y113.length + y116.length < 2932031007402 then (some (y113 ++ y116)) else (none)))) else (none))) else (none))) else (none)))) else (none)) else ((some (([] : List (S44)) : List (S44))).bind fun y123 => (if 0 ≤ x5 then (if x5 ≤ (x0.length : Int) then ((some (x0.take (x5 : Int).toNat : List (S44))).bind fun y126 => (if y123.length + y126.length < 2932031007402 then ((some (y123 ++ y126 : List (S44))).bind fun y130 => (if y130.length < 2932031007402 then ((some (y130 ++ [(⟨x102000, x102001, x102002, x102003, x102004⟩ : S44)] : List (S44))).bind fun y133 => ((some (x0.drop (x5 : Int).toNat : List (S44))).bind fun y136 => (if y133.length + y136.length < 2932031007402 then (some (y133 ++ y136)) else (none)))) else (none))) else (none))) else (none)) else (none)))
def spec_l2Put.f (k : Nat) (l0 : List (S44)) (a1_0 : ByteArray) (a1_1 : Int) (a1_2 : Int) (a1_3 : Int) (a1_4 : Int) : Option ((List (S44))) := spec_l2Put.l0 k l0 0 a1_0 a1_1 a1_2 a1_3 a1_4
theorem spec_l2Put.mono_l : ∀ k, (∀ y0 y1 y2 y3 y4 y5 y6, LeO (spec_l2Put.l0 k y0 y1 y2 y3 y4 y5 y6) (spec_l2Put.l0 (k + 1) y0 y1 y2 y3 y4 y5 y6))
 | 0 => fun _ _ _ _ _ _ _ r h => by simp [spec_l2Put.l0] at h
 | k + 1 => by
  have ih0 := spec_l2Put.mono_l k
  ·
   intro y0 y1 y2 y3 y4 y5 y6
   unfold spec_l2Put.l0
   repeat' first
   | (with_reducible exact ih0 _ _ _ _ _ _ _)
   | (with_reducible exact LeO.refl _)
   | (with_reducible exact LeO.none _)
   | (with_reducible refine LeO.ite ?_ ?_)
   | (with_reducible refine LeO.bind ?_ (fun _ => ?_))
theorem spec_l2Put.mono : ∀ a0 a1 a2 a3 a4 a5 k, LeO (spec_l2Put.f k a0 a1 a2 a3 a4 a5) (spec_l2Put.f (k + 1) a0 a1 a2 a3 a4 a5) := by
 intro a0 a1 a2 a3 a4 a5 k
 have ih0 := spec_l2Put.mono_l k
 unfold spec_l2Put.f
 repeat' first
   | (with_reducible exact ih0 _ _ _ _ _ _ _)
   | (with_reducible exact LeO.refl _)
   | (with_reducible exact LeO.none _)
   | (with_reducible refine LeO.ite ?_ ?_)
   | (with_reducible refine LeO.bind ?_ (fun _ => ?_))
def spec_l2Put.T2 : Bool × List (List Nat × List Nat) := (true, [([], []), ([], []), ([1], [1]), ([0, 2], [0, 2]), ([3], [3]), ([4], [4]), ([4], [4]), ([5, 6, 4], [4, 5, 6]), ([7, 4], [4, 7]), ([8, 4], [4, 8]), ([4], [4]), ([10, 4], [4, 10]), ([9, 11, 4], [4, 9, 11]), ([4, 12], [4, 12])])
def spec_l2Put.B2 : List Nat := [0, 0, 2, 7, 15, 31, 31, 127, 255, 511, 31, 1055, 4095, 8191]
theorem spec_l2Put.tab2 : rtab .any (opsOf Tryd.f79 2) = spec_l2Put.T2 := by kernel_rfl
theorem spec_l2Put.bits2 : waitsOk spec_l2Put.T2.2 spec_l2Put.B2 = true := by kernel_rfl
def spec_l2Put.T5 : Bool × List (List Nat × List Nat) := (true, [([], []), ([], []), ([1], [1]), ([0, 2], [0, 2]), ([], []), ([], []), ([4, 5], [4, 5]), ([3, 6, 3], [3, 6]), ([7, 7, 0, 1, 2, 3, 4, 5, 6, 7], [7])])
def spec_l2Put.B5 : List Nat := [0, 0, 2, 7, 0, 0, 48, 127, 255]
theorem spec_l2Put.tab5 : rtab .any (opsOf Tryd.f79 5) = spec_l2Put.T5 := by kernel_rfl
theorem spec_l2Put.bits5 : waitsOk spec_l2Put.T5.2 spec_l2Put.B5 = true := by kernel_rfl
theorem spec_l2Put.calls (k : Nat) (A0 : Option Addr) (c0 : Nat) (l0 : List (S44)) (a1_0 : ByteArray) (a1_1 : Int) (a1_2 : Int) (a1_3 : Int) (a1_4 : Int) (r : List (S44)) (w : World) (hr0 : Kd.C k44 w A0 l0.length l0) (hc0 : l0.length ≤ c0) (h : spec_l2Put.f k l0 a1_0 a1_1 a1_2 a1_3 a1_4 = some r) :
  Calls Tryd.prog 79 #[.slice A0 l0.length c0, .agg #[.string a1_0, .int .i64 a1_1, .int .i64 a1_2, .int .i64 a1_3, .int .i64 a1_4]] w fun e w' => ∃ v0_ : Value, e = .returned (v0_) ∧ Kd.R k44 44 w' w.heap.size (fun _ => True) v0_ r ∧ Below w.heap.size w w' := by
 have hu44 := Tryd.underlying44
 have HR0 := aa hr0
 have HC0 := aa hc0
 clear hr0 hc0
 have HB := aa (Below.refl w.heap.size w)
 have H : (spec_l2Put.l0 k l0 0 a1_0 a1_1 a1_2 a1_3 a1_4) = some r := h
 clear h
 have H' := aa H
 clear H
 go_enter Tryd.func79, Tryd.ntmps79
 go_wp2_with (first | ((with_reducible refine gate_dst (N := 3) rfl ?_); refine box_event ?hg (N := 3) ?hd (cs := #[.string a1_0, .int .i64 a1_1, .int .i64 a1_2, .int .i64 a1_3, .int .i64 a1_4]) (t := 44) ?hr ?_; (case hd => rfl); (case hg => rfl); (case hr => exact zhlgcp); intro gb101 hg w3 hbox hb; have n0_ := aa (below_step zjjbob hb); have n1_ := aa (hbox); have n2_ := aa ((zkpfjp : w.heap.size ≤ gb101)); have n3_ := aa ((zkpfjp : w.heap.size ≤ gb101)); clear HB; have HB := n0_; have BK101 := n1_; have GW101 := n2_; have GE101 := n3_; clear n0_ n1_ n2_ n3_; clear hb hbox hg))
 go_loopg [5] k (fun kq v5 w' => ∃ (x5_1 : Int), v5 = .int .i64 x5_1 ∧ Aside0 (spec_l2Put.l0 kq l0 x5_1 a1_0 a1_1 a1_2 a1_3 a1_4 = some r) ∧ Aside0 (kq ≤ k) ∧ Aside0 (w'.heap[gb101]? = some (.cells #[.string a1_0, .int .i64 a1_1, .int .i64 a1_2, .int .i64 a1_3, .int .i64 a1_4] 44 (0, 0))) ∧ Aside0 (Below w.heap.size w w'))
 case atStart => exact ⟨(0), zagbkp, H', ⟨Nat.le_refl _⟩, ⟨by (with_reducible repeat (first | refine blk_drewN ?_ _ | refine blk_drew ?_ | refine blk_alloc ?_ _)); exact BK101.out⟩, ⟨by repeat (first | (with_reducible first | exact HB.out | apply below_alloc | apply pw_below_drewN | apply below_drew1 | refine below_set ?_ GE101.out) | exact HB.out)⟩⟩
 case round =>
  clear H'
  try clear p2
  obtain ⟨x5_1, rfl, HA, HK1, BK101, HB⟩ := hrel
  cases gk with
  | zero => exact absurd HA.out (by simp [spec_l2Put.l0])
  | succ k1 =>
   have H := HA.out
   clear HA
   simp only [spec_l2Put.l0] at H
   by_cases c4 : x5_1 < (l0.length : Int)
   ·
    rw [if_pos c4] at H
    have c4b0 : decide (x5_1 < (l0.length : Int)) = true := decide_eq_true c4
    clear c4
    by_cases c5 : 0 ≤ x5_1
    ·
     rw [if_pos c5] at H
     have c5b0 : decide (0 ≤ x5_1) = true := decide_eq_true c5
     clear c5
     by_cases c6 : (Op.bytesLess (((rd_T44 l0 x5_1).f0).toList) a1_0.toList) = true
     ·
      rw [if_pos c6] at H
      have c6b0 : (Op.bytesLess (((rd_T44 l0 x5_1).f0).toList) a1_0.toList) = true := c6
      clear c6
      have H' := aa H
      clear H
      try go_wp2
      replace BK101 := aa (blk_drew BK101.out)
      replace HB := aa (below_drew1 HB.out)
      have p102 : 0 ≤ (x5_1 : Int) := of_decide_eq_true zgglam
      have q102 : x5_1 < (l0.length : Int) := of_decide_eq_true zgglam
      obtain ⟨ad102, e102, hx102_0, hx102_1, hx102_2, hx102_3, hx102_4⟩ := at_T44 HR0.out x5_1 p102 q102
      have hw102_4 := hx102_4
      have hw102_3 := hx102_3
      have hw102_2 := hx102_2
      have hw102_1 := hx102_1
      have hw102_0 := hx102_0
      cases e102
      replace hx102_0 := pb HB.out hx102_0
      replace hx102_1 := pb HB.out hx102_1
      replace hx102_2 := pb HB.out hx102_2
      replace hx102_3 := pb HB.out hx102_3
      replace hx102_4 := pb HB.out hx102_4
      replace p102 := eq_true p102
      replace q102 := eq_true q102
      refine start_ (n := 14) (S := fun w' => w'.cell? ⟨gb101, 0, none⟩ = some (.string a1_0) ∧ w'.cell? ⟨gb101, 1, none⟩ = some (.int .i64 a1_1) ∧ w'.cell? ⟨gb101, 2, none⟩ = some (.int .i64 a1_2) ∧ w'.cell? ⟨gb101, 3, none⟩ = some (.int .i64 a1_3) ∧ w'.cell? ⟨gb101, 4, none⟩ = some (.int .i64 a1_4) ∧ w'.cell? (ad102.add ((x5_1).toNat * 5)) = some (.string ((rd_T44 l0 x5_1).f0)) ∧ w'.cell? ⟨(ad102.add ((x5_1).toNat * 5)).block, (ad102.add ((x5_1).toNat * 5)).off + 1, none⟩ = some (.int .i64 ((rd_T44 l0 x5_1).f1)) ∧ w'.cell? ⟨(ad102.add ((x5_1).toNat * 5)).block, (ad102.add ((x5_1).toNat * 5)).off + 2, none⟩ = some (.int .i64 ((rd_T44 l0 x5_1).f2)) ∧ w'.cell? ⟨(ad102.add ((x5_1).toNat * 5)).block, (ad102.add ((x5_1).toNat * 5)).off + 3, none⟩ = some (.int .i64 ((rd_T44 l0 x5_1).f3)) ∧ w'.cell? ⟨(ad102.add ((x5_1).toNat * 5)).block, (ad102.add ((x5_1).toNat * 5)).off + 4, none⟩ = some (.int .i64 ((rd_T44 l0 x5_1).f4))) (ds := []) #[false, false, false, false, false, false, false, false, false, false, false, false, false, false] (by kernel_rfl) rfl rfl ⟨(blk_cell BK101.out 0).trans rfl, (blk_cell BK101.out 1).trans rfl, (blk_cell BK101.out 2).trans rfl, (blk_cell BK101.out 3).trans rfl, (blk_cell BK101.out 4).trans rfl, ((HB.out.cell (World.block_lt_of_cell? w _ hw102_0)).trans hw102_0), ((HB.out.cell (World.block_lt_of_cell? w _ hw102_1)).trans hw102_1), ((HB.out.cell (World.block_lt_of_cell? w _ hw102_2)).trans hw102_2), ((HB.out.cell (World.block_lt_of_cell? w _ hw102_3)).trans hw102_3), ((HB.out.cell (World.block_lt_of_cell? w _ hw102_4)).trans hw102_4)⟩ (fun hHeld => ?_); refine with_tabW spec_l2Put.tab2 spec_l2Put.bits2 (fun HT_ HW_ => ?_)
      generalize wr.drew = w7 at BK101 HB hx102_0 hx102_1 hx102_2 hx102_3 hx102_4 hHeld ⊢
      refine pure_ (i := 0) (N := some 7) (v := ?_) (a' := ?_) #[true, false, false, false, false, false, false, false, false, false, false, false, false, false] rfl rfl (any_of HT_.out (by kernel_rfl)) (fun _ _ _ h => h) (Or.inl ⟨by rfl, ?_⟩) ?_ ?_
      rotate_left
      ·
       intro w'
       go_simp
       with_reducible rfl
      rotate_left
      ·
       simp only [Act.put, List.setIfInBounds_toArray, List.set_cons_zero, List.set_cons_succ, i64_w, i32_w]
       rfl
      refine pure_ (i := 1) (N := some 8) (v := ?_) (a' := ?_) #[true, true, false, false, false, false, false, false, false, false, false, false, false, false] rfl rfl (any_of HT_.out (by kernel_rfl)) (fun _ _ _ h => h) (Or.inl ⟨by rfl, ?_⟩) ?_ ?_
      rotate_left
      ·
       intro w'
       go_simp
       with_reducible rfl
      rotate_left
      ·
       simp only [Act.put, List.setIfInBounds_toArray, List.set_cons_zero, List.set_cons_succ, i64_w, i32_w]
       rfl
      refine pure_ (i := 2) (N := some 9) (v := ?_) (a' := ?_) #[true, true, true, false, false, false, false, false, false, false, false, false, false, false] rfl rfl (any_of HT_.out (by kernel_rfl)) (fun _ _ _ h => h) (Or.inl ⟨by rfl, ?_⟩) ?_ ?_
      rotate_left
      ·
       intro w'
       go_simp
       with_reducible rfl
      rotate_left
      ·
       simp only [Act.put, List.setIfInBounds_toArray, List.set_cons_zero, List.set_cons_succ, i64_w, i32_w]
       rfl
      refine pure_ (i := 3) (N := some 10) (v := ?_) (a' := ?_) #[true, true, true, true, false, false, false, false, false, false, false, false, false, false] rfl rfl (any_of HT_.out (by kernel_rfl)) (fun _ _ _ h => h) (Or.inl ⟨by rfl, ?_⟩) ?_ ?_
      rotate_left
      ·
       intro w'
       go_simp
       with_reducible rfl
      rotate_left
      ·
       simp only [Act.put, List.setIfInBounds_toArray, List.set_cons_zero, List.set_cons_succ, i64_w, i32_w]
       rfl
      refine pure_ (i := 4) (N := some 11) (v := ?_) (a' := ?_) #[true, true, true, true, true, false, false, false, false, false, false, false, false, false] rfl rfl (any_of HT_.out (by kernel_rfl)) (fun _ _ _ h => h) (Or.inl ⟨by rfl, ?_⟩) ?_ ?_
      rotate_left
      ·
       intro w'
       go_simp
       with_reducible rfl
      rotate_left
      ·
       simp only [Act.put, List.setIfInBounds_toArray, List.set_cons_zero, List.set_cons_succ, i64_w, i32_w]
       rfl
      refine pure_ (i := 5) (N := some 12) (v := ?_) (a' := ?_) #[true, true, true, true, true, true, false, false, false, false, false, false, false, false] rfl rfl (any_of HT_.out (by kernel_rfl)) (fun _ _ _ h => h) (Or.inl ⟨by rfl, ?_⟩) ?_ ?_
      rotate_left
      ·
       intro w'
       go_simp
       with_reducible rfl
      rotate_left
      ·
       simp only [Act.put, List.setIfInBounds_toArray, List.set_cons_zero, List.set_cons_succ, i64_w, i32_w]
       rfl
      refine pure_ (i := 6) (N := some 13) (v := ?_) (a' := ?_) #[true, true, true, true, true, true, true, false, false, false, false, false, false, false] rfl rfl (any_of HT_.out (by kernel_rfl)) (fun _ _ _ h => h) (Or.inl ⟨by rfl, ?_⟩) ?_ ?_
      rotate_left
      ·
       intro w'
       go_simp
       with_reducible rfl
      rotate_left
      ·
       simp only [Act.put, List.setIfInBounds_toArray, List.set_cons_zero, List.set_cons_succ, i64_w, i32_w]
       rfl
      refine pure_ (i := 7) (N := some 14) (v := ?_) (a' := ?_) #[true, true, true, true, true, true, true, true, false, false, false, false, false, false] rfl rfl (any_of HT_.out (by kernel_rfl)) (fun _ _ _ h => h) (Or.inl ⟨by rfl, ?_⟩) ?_ ?_
      rotate_left
      ·
       intro w'
       go_simp
       with_reducible rfl
      rotate_left
      ·
       simp only [Act.put, List.setIfInBounds_toArray, List.set_cons_zero, List.set_cons_succ, i64_w, i32_w]
       rfl
      refine pure_ (i := 8) (N := some 15) (v := ?_) (a' := ?_) #[true, true, true, true, true, true, true, true, true, false, false, false, false, false] rfl rfl (any_of HT_.out (by kernel_rfl)) (fun _ _ _ h => h) (Or.inl ⟨by rfl, ?_⟩) ?_ ?_
      rotate_left
      ·
       intro w'
       go_simp
       with_reducible rfl
      rotate_left
      ·
       simp only [Act.put, List.setIfInBounds_toArray, List.set_cons_zero, List.set_cons_succ, i64_w, i32_w]
       rfl
      refine pure_ (i := 10) (N := some 17) (v := ?_) (a' := ?_) #[true, true, true, true, true, true, true, true, true, false, true, false, false, false] rfl rfl (any_of HT_.out (by kernel_rfl)) (fun _ _ _ h => h) (Or.inl ⟨by rfl, ?_⟩) ?_ ?_
      rotate_left
      ·
       intro w'
       go_simp
       with_reducible rfl
      rotate_left
      ·
       simp only [Act.put, List.setIfInBounds_toArray, List.set_cons_zero, List.set_cons_succ, i64_w, i32_w]
       rfl
      refine take_ (i := 9) (N := some 16) (v := ?_) (a' := ?_) #[true, true, true, true, true, true, true, true, true, true, true, false, false, false] rfl rfl (take_ofW HT_.out HW_.out (by kernel_rfl)) (fun _ _ _ h => h) (Or.inl ⟨by rfl, ?_⟩) hHeld ?_ ?_
      rotate_left
      ·
       rintro w' ⟨s0, s1, s2, s3, s4, s5, s6, s7, s8, s9⟩
       go_simp
       with_reducible rfl
      rotate_left
      ·
       simp only [Act.put, List.setIfInBounds_toArray, List.set_cons_zero, List.set_cons_succ, i64_w, i32_w]
       rfl
      refine take_ (i := 11) (N := some 18) (v := ?_) (a' := ?_) #[true, true, true, true, true, true, true, true, true, true, true, true, false, false] rfl rfl (take_ofW HT_.out HW_.out (by kernel_rfl)) (fun _ _ _ h => h) (Or.inl ⟨by rfl, ?_⟩) hHeld ?_ ?_
      rotate_left
      ·
       rintro w' ⟨s0, s1, s2, s3, s4, s5, s6, s7, s8, s9⟩
       go_simp
       with_reducible rfl
      rotate_left
      ·
       simp only [Act.put, List.setIfInBounds_toArray, List.set_cons_zero, List.set_cons_succ, i64_w, i32_w]
       rfl
      refine pure_ (i := 12) (N := some 19) (v := ?_) (a' := ?_) #[true, true, true, true, true, true, true, true, true, true, true, true, true, false] rfl rfl (any_of HT_.out (by kernel_rfl)) (fun _ _ _ h => h) (Or.inl ⟨by rfl, ?_⟩) ?_ ?_
      rotate_left
      ·
       intro w'
       go_simp
       with_reducible rfl
      rotate_left
      ·
       simp only [Act.put, List.setIfInBounds_toArray, List.set_cons_zero, List.set_cons_succ, i64_w, i32_w]
       rfl
      refine pure_ (i := 13) (N := some 20) (v := ?_) (a' := ?_) #[true, true, true, true, true, true, true, true, true, true, true, true, true, true] rfl rfl (any_of HT_.out (by kernel_rfl)) (fun _ _ _ h => h) (Or.inl ⟨by rfl, ?_⟩) ?_ ?_
      rotate_left
      ·
       intro w'
       go_simp
       with_reducible rfl
      rotate_left
      ·
       simp only [Act.put, List.setIfInBounds_toArray, List.set_cons_zero, List.set_cons_succ, i64_w, i32_w]
       rfl
      refine done_ (done_of HT_.out (by kernel_rfl)) ?_
      try go_wp2
      go_roundg k1
      case measure => have := HK1.out; omega
      case rel => exact ⟨(wrap64 (x5_1 + 1)), zagbkp, H', ⟨by have := HK1.out; omega⟩, ⟨by (with_reducible repeat (first | refine blk_drewN ?_ _ | refine blk_drew ?_ | refine blk_alloc ?_ _)); exact BK101.out⟩, ⟨by repeat (first | (with_reducible first | exact HB.out | apply below_alloc | apply pw_below_drewN | apply below_drew1 | refine below_set ?_ GE101.out) | exact HB.out)⟩⟩
     rw [if_neg c6] at H
     have c6b0 : (Op.bytesLess (((rd_T44 l0 x5_1).f0).toList) a1_0.toList) = false := by simpa using c6
     clear c6
     obtain ⟨y103, hy103⟩ : ∃ y_ : List (S44), y_ = (([] : List (S44))) := ⟨_, rfl⟩
     replace H : (if x5_1 ≤ (l0.length : Int) then ((some (l0.take (x5_1 : Int).toNat : List (S44))).bind fun y106 => (if y103.length + y106.length < 2932031007402 then ((some (y103 ++ y106 : List (S44))).bind fun y110 => (if y110.length < 2932031007402 then ((some (y110 ++ [(⟨a1_0, a1_1, a1_2, a1_3, a1_4⟩ : S44)] : List (S44))).bind fun y113 => ((some (l0.drop (x5_1 : Int).toNat : List (S44))).bind fun y116 => (if y113.length + y116.length < 2932031007402 then (some (y113 ++ y116)) else (none)))) else (none))) else (none))) else (none)) = some r := by first | (rw [hy103]; with_reducible exact H) | (have H2_ := (Option.bind_some _ _).symm.trans H; rw [hy103]; with_reducible exact H2_) | (have H2_ := (Option.bind_some _ _).symm.trans H; with_reducible exact H2_) | with_reducible exact H | (rw [hy103]; exact H) | exact H
     have Ny103 := aa hy103
     clear hy103
     have c8b0 := eq_true (of_decide_eq_true zgglam : 0 ≤ x5_1)
     by_cases c9 : x5_1 ≤ (l0.length : Int)
     ·
      rw [if_pos c9] at H
      have c9b0 := eq_true c9
      have c9b1 : decide (x5_1 ≤ (l0.length : Int)) = true := decide_eq_true c9
      clear c9
      obtain ⟨y106, hy106⟩ : ∃ y_ : List (S44), y_ = (l0.take (x5_1 : Int).toNat) := ⟨_, rfl⟩
      replace H : (if y103.length + y106.length < 2932031007402 then ((some (y103 ++ y106 : List (S44))).bind fun y110 => (if y110.length < 2932031007402 then ((some (y110 ++ [(⟨a1_0, a1_1, a1_2, a1_3, a1_4⟩ : S44)] : List (S44))).bind fun y113 => ((some (l0.drop (x5_1 : Int).toNat : List (S44))).bind fun y116 => (if y113.length + y116.length < 2932031007402 then (some (y113 ++ y116)) else (none)))) else (none))) else (none)) = some r := by first | (rw [hy106]; with_reducible exact H) | (have H2_ := (Option.bind_some _ _).symm.trans H; rw [hy106]; with_reducible exact H2_) | (have H2_ := (Option.bind_some _ _).symm.trans H; with_reducible exact H2_) | with_reducible exact H | (rw [hy106]; exact H) | exact H
      have Ny106 := aa hy106
      clear hy106
      by_cases c10 : y103.length + y106.length < 2932031007402
      ·
       rw [if_pos c10] at H
       have LMc10 := aa c10
       clear c10
       obtain ⟨y110, hy110⟩ : ∃ y_ : List (S44), y_ = (y103 ++ y106) := ⟨_, rfl⟩
       replace H : (if y110.length < 2932031007402 then ((some (y110 ++ [(⟨a1_0, a1_1, a1_2, a1_3, a1_4⟩ : S44)] : List (S44))).bind fun y113 => ((some (l0.drop (x5_1 : Int).toNat : List (S44))).bind fun y116 => (if y113.length + y116.length < 2932031007402 then (some (y113 ++ y116)) else (none)))) else (none)) = some r := by first | (rw [hy110]; with_reducible exact H) | (have H2_ := (Option.bind_some _ _).symm.trans H; rw [hy110]; with_reducible exact H2_) | (have H2_ := (Option.bind_some _ _).symm.trans H; with_reducible exact H2_) | with_reducible exact H | (rw [hy110]; exact H) | exact H
       have Ny110 := aa hy110
       clear hy110
       by_cases c11 : y110.length < 2932031007402
       ·
        rw [if_pos c11] at H
        have LMc11 := aa c11
        clear c11
        obtain ⟨y113, hy113⟩ : ∃ y_ : List (S44), y_ = (y110 ++ [(⟨a1_0, a1_1, a1_2, a1_3, a1_4⟩ : S44)]) := ⟨_, rfl⟩
        replace H : ((some (l0.drop (x5_1 : Int).toNat : List (S44))).bind fun y116 => (if y113.length + y116.length < 2932031007402 then (some (y113 ++ y116)) else (none))) = some r := by first | (rw [hy113]; with_reducible exact H) | (have H2_ := (Option.bind_some _ _).symm.trans H; rw [hy113]; with_reducible exact H2_) | (have H2_ := (Option.bind_some _ _).symm.trans H; with_reducible exact H2_) | with_reducible exact H | (rw [hy113]; exact H) | exact H
        have Ny113 := aa hy113
        clear hy113
        have c12b0 := eq_true (of_decide_eq_true zgglam : 0 ≤ x5_1)
        have c13b0 := eq_true (of_decide_eq_true zgglam : x5_1 ≤ (l0.length : Int))
        obtain ⟨y116, hy116⟩ : ∃ y_ : List (S44), y_ = (l0.drop (x5_1 : Int).toNat) := ⟨_, rfl⟩
        replace H : (if y113.length + y116.length < 2932031007402 then (some (y113 ++ y116)) else (none)) = some r := by first | (rw [hy116]; with_reducible exact H) | (have H2_ := (Option.bind_some _ _).symm.trans H; rw [hy116]; with_reducible exact H2_) | (have H2_ := (Option.bind_some _ _).symm.trans H; with_reducible exact H2_) | with_reducible exact H | (rw [hy116]; exact H) | exact H
        have Ny116 := aa hy116
        clear hy116
        by_cases c14 : y113.length + y116.length < 2932031007402
        ·
         rw [if_pos c14] at H
         have LMc14 := aa c14
         clear c14
         obtain ⟨y120, hy120⟩ : ∃ y_ : List (S44), y_ = (y113 ++ y116) := ⟨_, rfl⟩
         replace H : (some y120) = some r := by first | (rw [hy120]; with_reducible exact H) | (have H2_ := (Option.bind_some _ _).symm.trans H; rw [hy120]; with_reducible exact H2_) | (have H2_ := (Option.bind_some _ _).symm.trans H; with_reducible exact H2_) | with_reducible exact H | (rw [hy120]; exact H) | exact H
         have Ny120 := aa hy120
         clear hy120
         obtain rfl := Option.some.inj H
         try go_wp2
         replace BK101 := aa (blk_drew BK101.out)
         replace HB := aa (below_drew1 HB.out)
         have p102 : 0 ≤ (x5_1 : Int) := of_decide_eq_true zgglam
         have q102 : x5_1 < (l0.length : Int) := of_decide_eq_true zgglam
         obtain ⟨ad102, e102, hx102_0, hx102_1, hx102_2, hx102_3, hx102_4⟩ := at_T44 HR0.out x5_1 p102 q102
         have hw102_4 := hx102_4
         have hw102_3 := hx102_3
         have hw102_2 := hx102_2
         have hw102_1 := hx102_1
         have hw102_0 := hx102_0
         cases e102
         replace hx102_0 := pb HB.out hx102_0
         replace hx102_1 := pb HB.out hx102_1
         replace hx102_2 := pb HB.out hx102_2
         replace hx102_3 := pb HB.out hx102_3
         replace hx102_4 := pb HB.out hx102_4
         replace p102 := eq_true p102
         replace q102 := eq_true q102
         refine start_ (n := 14) (S := fun w' => w'.cell? ⟨gb101, 0, none⟩ = some (.string a1_0) ∧ w'.cell? ⟨gb101, 1, none⟩ = some (.int .i64 a1_1) ∧ w'.cell? ⟨gb101, 2, none⟩ = some (.int .i64 a1_2) ∧ w'.cell? ⟨gb101, 3, none⟩ = some (.int .i64 a1_3) ∧ w'.cell? ⟨gb101, 4, none⟩ = some (.int .i64 a1_4) ∧ w'.cell? (ad102.add ((x5_1).toNat * 5)) = some (.string ((rd_T44 l0 x5_1).f0)) ∧ w'.cell? ⟨(ad102.add ((x5_1).toNat * 5)).block, (ad102.add ((x5_1).toNat * 5)).off + 1, none⟩ = some (.int .i64 ((rd_T44 l0 x5_1).f1)) ∧ w'.cell? ⟨(ad102.add ((x5_1).toNat * 5)).block, (ad102.add ((x5_1).toNat * 5)).off + 2, none⟩ = some (.int .i64 ((rd_T44 l0 x5_1).f2)) ∧ w'.cell? ⟨(ad102.add ((x5_1).toNat * 5)).block, (ad102.add ((x5_1).toNat * 5)).off + 3, none⟩ = some (.int .i64 ((rd_T44 l0 x5_1).f3)) ∧ w'.cell? ⟨(ad102.add ((x5_1).toNat * 5)).block, (ad102.add ((x5_1).toNat * 5)).off + 4, none⟩ = some (.int .i64 ((rd_T44 l0 x5_1).f4))) (ds := []) #[false, false, false, false, false, false, false, false, false, false, false, false, false, false] (by kernel_rfl) rfl rfl ⟨(blk_cell BK101.out 0).trans rfl, (blk_cell BK101.out 1).trans rfl, (blk_cell BK101.out 2).trans rfl, (blk_cell BK101.out 3).trans rfl, (blk_cell BK101.out 4).trans rfl, ((HB.out.cell (World.block_lt_of_cell? w _ hw102_0)).trans hw102_0), ((HB.out.cell (World.block_lt_of_cell? w _ hw102_1)).trans hw102_1), ((HB.out.cell (World.block_lt_of_cell? w _ hw102_2)).trans hw102_2), ((HB.out.cell (World.block_lt_of_cell? w _ hw102_3)).trans hw102_3), ((HB.out.cell (World.block_lt_of_cell? w _ hw102_4)).trans hw102_4)⟩ (fun hHeld => ?_); refine with_tabW spec_l2Put.tab2 spec_l2Put.bits2 (fun HT_ HW_ => ?_)
         generalize wr.drew = w15 at BK101 HB hx102_0 hx102_1 hx102_2 hx102_3 hx102_4 hHeld ⊢
         refine pure_ (i := 0) (N := some 7) (v := ?_) (a' := ?_) #[true, false, false, false, false, false, false, false, false, false, false, false, false, false] rfl rfl (any_of HT_.out (by kernel_rfl)) (fun _ _ _ h => h) (Or.inl ⟨by rfl, ?_⟩) ?_ ?_
         rotate_left
         ·
          intro w'
          go_simp
          with_reducible rfl
         rotate_left
         ·
          simp only [Act.put, List.setIfInBounds_toArray, List.set_cons_zero, List.set_cons_succ, i64_w, i32_w]
          rfl
         refine pure_ (i := 1) (N := some 8) (v := ?_) (a' := ?_) #[true, true, false, false, false, false, false, false, false, false, false, false, false, false] rfl rfl (any_of HT_.out (by kernel_rfl)) (fun _ _ _ h => h) (Or.inl ⟨by rfl, ?_⟩) ?_ ?_
         rotate_left
         ·
          intro w'
          go_simp
          with_reducible rfl
         rotate_left
         ·
          simp only [Act.put, List.setIfInBounds_toArray, List.set_cons_zero, List.set_cons_succ, i64_w, i32_w]
          rfl
         refine pure_ (i := 2) (N := some 9) (v := ?_) (a' := ?_) #[true, true, true, false, false, false, false, false, false, false, false, false, false, false] rfl rfl (any_of HT_.out (by kernel_rfl)) (fun _ _ _ h => h) (Or.inl ⟨by rfl, ?_⟩) ?_ ?_
         rotate_left
         ·
          intro w'
          go_simp
          with_reducible rfl
         rotate_left
         ·
          simp only [Act.put, List.setIfInBounds_toArray, List.set_cons_zero, List.set_cons_succ, i64_w, i32_w]
          rfl
         refine pure_ (i := 3) (N := some 10) (v := ?_) (a' := ?_) #[true, true, true, true, false, false, false, false, false, false, false, false, false, false] rfl rfl (any_of HT_.out (by kernel_rfl)) (fun _ _ _ h => h) (Or.inl ⟨by rfl, ?_⟩) ?_ ?_
         rotate_left
         ·
          intro w'
          go_simp
          with_reducible rfl
         rotate_left
         ·
          simp only [Act.put, List.setIfInBounds_toArray, List.set_cons_zero, List.set_cons_succ, i64_w, i32_w]
          rfl
         refine pure_ (i := 4) (N := some 11) (v := ?_) (a' := ?_) #[true, true, true, true, true, false, false, false, false, false, false, false, false, false] rfl rfl (any_of HT_.out (by kernel_rfl)) (fun _ _ _ h => h) (Or.inl ⟨by rfl, ?_⟩) ?_ ?_
         rotate_left
         ·
          intro w'
          go_simp
          with_reducible rfl
         rotate_left
         ·
          simp only [Act.put, List.setIfInBounds_toArray, List.set_cons_zero, List.set_cons_succ, i64_w, i32_w]
          rfl
         refine pure_ (i := 5) (N := some 12) (v := ?_) (a' := ?_) #[true, true, true, true, true, true, false, false, false, false, false, false, false, false] rfl rfl (any_of HT_.out (by kernel_rfl)) (fun _ _ _ h => h) (Or.inl ⟨by rfl, ?_⟩) ?_ ?_
         rotate_left
         ·
          intro w'
          go_simp
          with_reducible rfl
         rotate_left
         ·
          simp only [Act.put, List.setIfInBounds_toArray, List.set_cons_zero, List.set_cons_succ, i64_w, i32_w]
          rfl
         refine pure_ (i := 6) (N := some 13) (v := ?_) (a' := ?_) #[true, true, true, true, true, true, true, false, false, false, false, false, false, false] rfl rfl (any_of HT_.out (by kernel_rfl)) (fun _ _ _ h => h) (Or.inl ⟨by rfl, ?_⟩) ?_ ?_
         rotate_left
         ·
          intro w'
          go_simp
          with_reducible rfl
         rotate_left
         ·
          simp only [Act.put, List.setIfInBounds_toArray, List.set_cons_zero, List.set_cons_succ, i64_w, i32_w]
          rfl
         refine pure_ (i := 7) (N := some 14) (v := ?_) (a' := ?_) #[true, true, true, true, true, true, true, true, false, false, false, false, false, false] rfl rfl (any_of HT_.out (by kernel_rfl)) (fun _ _ _ h => h) (Or.inl ⟨by rfl, ?_⟩) ?_ ?_
         rotate_left
         ·
          intro w'
          go_simp
          with_reducible rfl
         rotate_left
         ·
          simp only [Act.put, List.setIfInBounds_toArray, List.set_cons_zero, List.set_cons_succ, i64_w, i32_w]
          rfl
         refine pure_ (i := 8) (N := some 15) (v := ?_) (a' := ?_) #[true, true, true, true, true, true, true, true, true, false, false, false, false, false] rfl rfl (any_of HT_.out (by kernel_rfl)) (fun _ _ _ h => h) (Or.inl ⟨by rfl, ?_⟩) ?_ ?_
         rotate_left
         ·
          intro w'
          go_simp
          with_reducible rfl
         rotate_left
         ·
          simp only [Act.put, List.setIfInBounds_toArray, List.set_cons_zero, List.set_cons_succ, i64_w, i32_w]
          rfl
         refine pure_ (i := 10) (N := some 17) (v := ?_) (a' := ?_) #[true, true, true, true, true, true, true, true, true, false, true, false, false, false] rfl rfl (any_of HT_.out (by kernel_rfl)) (fun _ _ _ h => h) (Or.inl ⟨by rfl, ?_⟩) ?_ ?_
         rotate_left
         ·
          intro w'
          go_simp
          with_reducible rfl
         rotate_left
         ·
          simp only [Act.put, List.setIfInBounds_toArray, List.set_cons_zero, List.set_cons_succ, i64_w, i32_w]
          rfl
         refine take_ (i := 9) (N := some 16) (v := ?_) (a' := ?_) #[true, true, true, true, true, true, true, true, true, true, true, false, false, false] rfl rfl (take_ofW HT_.out HW_.out (by kernel_rfl)) (fun _ _ _ h => h) (Or.inl ⟨by rfl, ?_⟩) hHeld ?_ ?_
         rotate_left
         ·
          rintro w' ⟨s0, s1, s2, s3, s4, s5, s6, s7, s8, s9⟩
          go_simp
          with_reducible rfl
         rotate_left
         ·
          simp only [Act.put, List.setIfInBounds_toArray, List.set_cons_zero, List.set_cons_succ, i64_w, i32_w]
          rfl
         refine take_ (i := 11) (N := some 18) (v := ?_) (a' := ?_) #[true, true, true, true, true, true, true, true, true, true, true, true, false, false] rfl rfl (take_ofW HT_.out HW_.out (by kernel_rfl)) (fun _ _ _ h => h) (Or.inl ⟨by rfl, ?_⟩) hHeld ?_ ?_
         rotate_left
         ·
          rintro w' ⟨s0, s1, s2, s3, s4, s5, s6, s7, s8, s9⟩
          go_simp
          with_reducible rfl
         rotate_left
         ·
          simp only [Act.put, List.setIfInBounds_toArray, List.set_cons_zero, List.set_cons_succ, i64_w, i32_w]
          rfl
         refine pure_ (i := 12) (N := some 19) (v := ?_) (a' := ?_) #[true, true, true, true, true, true, true, true, true, true, true, true, true, false] rfl rfl (any_of HT_.out (by kernel_rfl)) (fun _ _ _ h => h) (Or.inl ⟨by rfl, ?_⟩) ?_ ?_
         rotate_left
         ·
          intro w'
          go_simp
          with_reducible rfl
         rotate_left
         ·
          simp only [Act.put, List.setIfInBounds_toArray, List.set_cons_zero, List.set_cons_succ, i64_w, i32_w]
          rfl
         refine pure_ (i := 13) (N := some 20) (v := ?_) (a' := ?_) #[true, true, true, true, true, true, true, true, true, true, true, true, true, true] rfl rfl (any_of HT_.out (by kernel_rfl)) (fun _ _ _ h => h) (Or.inl ⟨by rfl, ?_⟩) ?_ ?_
         rotate_left
         ·
          intro w'
          go_simp
          with_reducible rfl
         rotate_left
         ·
          simp only [Act.put, List.setIfInBounds_toArray, List.set_cons_zero, List.set_cons_succ, i64_w, i32_w]
          rfl
         refine done_ (done_of HT_.out (by kernel_rfl)) ?_
         try go_wp2_with (first | ((with_reducible refine gate_dst (N := 23) rfl ?_); refine Kd.R_lit k44 _ 44 ?hg (N := 23) ?hd (xs := ([] : List (S44))) (inner := []) (ok := fun _ => True) (okp := fun _ => True) ?hr ?hp (fun _ hk => hk) trivial (Below.refl _ _) (Nat.le_refl _) (by simp) ?_; (case hd => rfl); (case hg => rfl); (case hr => exact zhlgcp); (case hp => exact (Reps.none _ _)); intro v104 w16 ho17 hb hg_ hnew_; clear hg_ hnew_; (first | rw [← Ny103.out] at ho17 | (simp only [Int.reduceToNat] at ho17; rw [← Ny103.out] at ho17)); have HO105 := aa (Kd.R_lower (Kd.R_newB ho17 (g := gb101) (o := .cells #[.string a1_0, .int .i64 a1_1, .int .i64 a1_2, .int .i64 a1_3, .int .i64 a1_4] 44 (0, 0)) (zkjhpm BK101.out)) (below_size zkmbdh)); replace BK101 := aa (blk_below (g := gb101) (o := .cells #[.string a1_0, .int .i64 a1_1, .int .i64 a1_2, .int .i64 a1_3, .int .i64 a1_4] 44 (0, 0)) (zkjhpm BK101.out) hb); replace HB := aa (below_step zkmbdh hb); clear hb ho17; have q18 : (x5_1 : Int) ≤ ((l0.length : Int) : Int) := of_decide_eq_true zgglam; obtain ⟨i018, hi018, _, hsz18, _⟩ := info_parts info44; have hroom18 : l0.length ≤ c0 := HC0.out; have hC18 : Kd.C k44 _ (some ad102) l0.length l0 := HR0.out; have hcut18 := cut_to (P := Tryd.prog) 25 44 .i64 Tryd.underlying25 hi018 (some ad102) l0.length c0 x5_1 (of_decide_eq_true zgglam) q18 hroom18; have hr18 := Kd.C_take (m := (x5_1 : Int).toNat) hC18 (by omega); have hy18 : y106.length = (x5_1 : Int).toNat := (by rw [Ny106.out, List.length_take]; omega); rw [← Ny106.out] at hr18; rw [← hy18] at hcut18; have HR109 := aa hr18; have HC109 := aa (show y106.length ≤ c0 from by omega); clear hr18 hC18 hroom18 hi018 hsz18; have KY18 := aa hy18; clear hy18; replace q18 := eq_true q18) | ((with_reducible refine gate_builtin (b := .append) (xs := #[.tmp 23, .tmp 26]) rfl ?_); at_builtin; refine Kd.R_append_rows k44 (w0 := w) w.heap.size rfl (.tmp 23) (.tmp 26) 25 44 (.agg #[(.string ⟨#[]⟩), (.int .i64 0), (.int .i64 0), (.int .i64 0), (.int .i64 0)]) 48 rfl Tryd.underlying25 info44 rfl (by decide) (by omega) v104 y103 y106 _ _ _ (fun k_ => k_ ≠ gb101) (fun _ => False) rfl rfl ?aO ?aR (fun _ _ h => h) (fun _ h => h.elim) ?aF ?aB ?aS ?aL ?_; (case aR => repeat (first | exact (Kd.C_below HR109.out HB.out) | (with_reducible refine Kd.C_alloc ?_ _) | (with_reducible refine Kd.C_drewN ?_ _) | (with_reducible refine Kd.C_drew ?_))); (case aB => exact zkmbdh); (case aF => exact zppmlf); (case aO => exact (by (with_reducible repeat (first | apply Kd.R_alloc | apply Kd.R_drewN | apply Kd.R_drew)); exact Kd.R_mono HO105.out (fun _ hk => hk.2))); (case aS => exact (below_size zkmbdh)); (case aL => have := LMc10.out; omega); intro v111 w19 ho hb hg hat; rw [← Ny110.out] at ho; replace BK101 := aa (blk_grown (g := gb101) (o := .cells #[.string a1_0, .int .i64 a1_1, .int .i64 a1_2, .int .i64 a1_3, .int .i64 a1_4] 44 (0, 0)) (zkjhpm BK101.out) hg (Kd.R_away HO105.out (fun _ hk => hk.2))); replace HB := aa (hb); have HO112 := aa (ho); clear HO105; clear ho hb hg hat))
         replace HO112 := aa (Kd.R_drew HO112.out)
         replace BK101 := aa (blk_drew BK101.out)
         replace HB := aa (below_drew1 HB.out)
         have q21 : (x5_1 : Int) ≤ ((l0.length : Int) : Int) := of_decide_eq_true zgglam
         obtain ⟨i021, hi021, _, hsz21, _⟩ := info_parts info44
         have hroom21 : l0.length ≤ c0 := HC0.out
         have hC21 : Kd.C k44 _ (some ad102) l0.length l0 := HR0.out
         have q021 : (0 : Int) ≤ (x5_1 : Int) := of_decide_eq_true zgglam
         have hcut21 := cut_from (P := Tryd.prog) 25 44 .i64 Tryd.underlying25 hi021 5 hsz21 (some ad102) l0.length c0 x5_1 q021 q21
         have hr21 := Kd.C_drop (m := (x5_1 : Int).toNat) (c := c0) hC21 (by omega) hroom21
         obtain ⟨A21, hA21⟩ : ∃ A1, A1 = (if c0 = (x5_1 : Int).toNat then (some ad102) else ((some ad102) : Option Addr).map (·.add ((x5_1 : Int).toNat * 5))) := ⟨_, rfl⟩
         obtain ⟨c21, hc21⟩ : ∃ c1, c1 = c0 - (x5_1 : Int).toNat := ⟨_, rfl⟩
         have hy21 : y116.length = l0.length - (x5_1 : Int).toNat := (by rw [Ny116.out, List.length_drop] <;> omega)
         rw [show (l0).drop (x5_1 : Int).toNat = y116 from Ny116.out.symm] at hr21
         replace hr21 : Kd.C k44 _ A21 y116.length y116 := (by rw [hA21]; exact hr21)
         rw [← hy21, ← hA21, ← hc21] at hcut21
         have HR119 := aa hr21
         have HC119 := aa (show y116.length ≤ c21 from by rw [hy21, hc21]; exact Nat.sub_le_sub_right hroom21 _)
         clear hr21 hC21 hroom21 hi021 hsz21 hc21
         have KY21 := aa hy21
         have KA21 := aa hA21
         clear hy21 hA21
         replace q21 := eq_true q21
         refine start_ (n := 9) (S := fun w' => w'.cell? ⟨gb101, 0, none⟩ = some (.string a1_0) ∧ w'.cell? ⟨gb101, 1, none⟩ = some (.int .i64 a1_1) ∧ w'.cell? ⟨gb101, 2, none⟩ = some (.int .i64 a1_2) ∧ w'.cell? ⟨gb101, 3, none⟩ = some (.int .i64 a1_3) ∧ w'.cell? ⟨gb101, 4, none⟩ = some (.int .i64 a1_4)) (ds := []) #[false, false, false, false, false, false, false, false, false] (by kernel_rfl) rfl rfl ⟨(blk_cell BK101.out 0).trans rfl, (blk_cell BK101.out 1).trans rfl, (blk_cell BK101.out 2).trans rfl, (blk_cell BK101.out 3).trans rfl, (blk_cell BK101.out 4).trans rfl⟩ (fun hHeld => ?_); refine with_tabW spec_l2Put.tab5 spec_l2Put.bits5 (fun HT_ HW_ => ?_)
         generalize w19.drew = w20 at HO112 BK101 HB HR119 hHeld ⊢
         refine pure_ (i := 0) (N := some 28) (v := ?_) (a' := ?_) #[true, false, false, false, false, false, false, false, false] rfl rfl (any_of HT_.out (by kernel_rfl)) (fun _ _ _ h => h) (Or.inl ⟨by rfl, ?_⟩) ?_ ?_
         rotate_left
         ·
          intro w'
          go_simp
          with_reducible rfl
         rotate_left
         ·
          simp only [Act.put, List.setIfInBounds_toArray, List.set_cons_zero, List.set_cons_succ, i64_w, i32_w]
          rfl
         refine pure_ (i := 4) (N := some 32) (v := ?_) (a' := ?_) #[true, false, false, false, true, false, false, false, false] rfl rfl (any_of HT_.out (by kernel_rfl)) (fun _ _ _ h => h) (Or.inl ⟨by rfl, ?_⟩) ?_ ?_
         rotate_left
         ·
          intro w'
          go_simp
          with_reducible rfl
         rotate_left
         ·
          simp only [Act.put, List.setIfInBounds_toArray, List.set_cons_zero, List.set_cons_succ, i64_w, i32_w]
          rfl
         refine pure_ (i := 5) (N := some 33) (v := ?_) (a' := ?_) #[true, false, false, false, true, true, false, false, false] rfl rfl (any_of HT_.out (by kernel_rfl)) (fun _ _ _ h => h) (Or.inl ⟨by rfl, ?_⟩) ?_ ?_
         rotate_left
         ·
          intro w'
          go_simp
          with_reducible rfl
         rotate_left
         ·
          simp only [Act.put, List.setIfInBounds_toArray, List.set_cons_zero, List.set_cons_succ, i64_w, i32_w]
          rfl
         refine pure_ (i := 6) (N := some 34) (v := ?_) (a' := ?_) #[true, false, false, false, true, true, true, false, false] rfl rfl (any_of HT_.out (by kernel_rfl)) (fun _ _ _ h => h) (Or.inl ⟨by rfl, ?_⟩) ?_ ?_
         rotate_left
         ·
          intro w'
          go_simp
          with_reducible rfl
         rotate_left
         ·
          simp only [Act.put, List.setIfInBounds_toArray, List.set_cons_zero, List.set_cons_succ, i64_w, i32_w]
          rfl
         refine take_ (i := 1) (N := some 29) (v := ?_) (a' := ?_) #[true, true, false, false, true, true, true, false, false] rfl rfl (take_ofW HT_.out HW_.out (by kernel_rfl)) (fun _ _ _ h => h) (Or.inl ⟨by rfl, ?_⟩) hHeld ?_ ?_
         rotate_left
         ·
          rintro w' ⟨s0, s1, s2, s3, s4⟩
          go_simp
          with_reducible rfl
         rotate_left
         ·
          simp only [Act.put, List.setIfInBounds_toArray, List.set_cons_zero, List.set_cons_succ, i64_w, i32_w]
          rfl
         refine one_ (i := 2) (N := some 30) #[true, true, true, false, true, true, true, false, false] rfl rfl (one_of HT_.out (by kernel_rfl)) (by decide) (fun K hK => ?_)
         refine value_ (w1 := ?_) (v := ?_) (by rfl) rfl ?_ ?_
         rotate_left 2
         ·
          go_simp
          constructor
          ·
           rfl
          rfl
         refine hK.out _ _ ⟨(blk_cell (blk_alloc BK101.out _) 0).trans rfl, (blk_cell (blk_alloc BK101.out _) 1).trans rfl, (blk_cell (blk_alloc BK101.out _) 2).trans rfl, (blk_cell (blk_alloc BK101.out _) 3).trans rfl, (blk_cell (blk_alloc BK101.out _) 4).trans rfl⟩ (fun hHeld => ?_)
         clear hK K
         refine norm_ (a' := ?_) ?_ ?_
         rotate_left
         ·
          show Act.put _ (some 30) _ = _
          simp only [Act.put, List.setIfInBounds_toArray, List.set_cons_zero, List.set_cons_succ, i64_w, i32_w]
          rfl
         refine one_ (i := 3) (N := some 31) #[true, true, true, true, true, true, true, false, false] rfl rfl (one_of HT_.out (by kernel_rfl)) (by decide) (fun K hK => ?_)
         refine Kd.R_append_step k44 (w0 := w) w.heap.size (by rfl) (.tmp 28) (.tmp 30) 25 44 (.agg #[(.string ⟨#[]⟩), (.int .i64 0), (.int .i64 0), (.int .i64 0), (.int .i64 0)]) 48 rfl Tryd.underlying25 info44 rfl (by decide) (by omega) v111 y110 (⟨a1_0, a1_1, a1_2, a1_3, a1_4⟩ : S44) [.string a1_0, .int .i64 a1_1, .int .i64 a1_2, .int .i64 a1_3, .int .i64 a1_4] (fun k_ => k_ ≠ gb101) (fun _ => False) rfl rfl ?aP (fun _ hk => hk.elim) ?aF ?aO ?aB ?aS ?aL ?_
         (case aP => exact k44_mkM _ _ _ (⟨a1_0, a1_1, a1_2, a1_3, a1_4⟩ : S44))
         (case aB => exact zkmbdh)
         (case aF => exact zppmlf)
         (case aO => exact (zcaken HO112.out))
         (case aS => exact (below_size zkmbdh))
         (case aL => have := LMc11.out; omega)
         intro v114 w22 ho hb hg hat
         rw [← Ny113.out] at ho
         replace BK101 := aa (blk_grown (g := gb101) (o := .cells #[.string a1_0, .int .i64 a1_1, .int .i64 a1_2, .int .i64 a1_3, .int .i64 a1_4] 44 (0, 0)) (zkjhpm BK101.out) hg (Kd.R_away HO112.out (fun _ hk => hk)))
         replace HB := aa (hb)
         have HO115 := aa (ho)
         clear HO112
         clear ho hb hg hat
         refine hK.out _ _ ⟨(blk_cell BK101.out 0).trans rfl, (blk_cell BK101.out 1).trans rfl, (blk_cell BK101.out 2).trans rfl, (blk_cell BK101.out 3).trans rfl, (blk_cell BK101.out 4).trans rfl⟩ (fun hHeld => ?_)
         clear hK K
         refine norm_ (a' := ?_) ?_ ?_
         rotate_left
         ·
          show Act.put _ (some 31) _ = _
          simp only [Act.put, List.setIfInBounds_toArray, List.set_cons_zero, List.set_cons_succ, i64_w, i32_w]
          rfl
         refine one_ (i := 7) (N := some 35) #[true, true, true, true, true, true, true, true, false] rfl rfl (one_of HT_.out (by kernel_rfl)) (by decide) (fun K hK => ?_)
         refine Kd.R_append_rows_step k44 (w0 := w) w.heap.size (by rfl) (.tmp 31) (.tmp 34) 25 44 (.agg #[(.string ⟨#[]⟩), (.int .i64 0), (.int .i64 0), (.int .i64 0), (.int .i64 0)]) 48 rfl Tryd.underlying25 info44 rfl (by decide) (by omega) v114 y113 y116 _ _ _ (fun k_ => k_ ≠ gb101) (fun _ => False) rfl rfl ?aO ?aR (fun _ _ h => h) (fun _ h => h.elim) ?aF ?aB ?aS ?aL ?_
         (case aR => repeat (first | exact (Kd.C_below HR119.out HB.out) | (with_reducible refine Kd.C_alloc ?_ _) | (with_reducible refine Kd.C_drewN ?_ _) | (with_reducible refine Kd.C_drew ?_)))
         (case aB => exact zkmbdh)
         (case aF => exact zppmlf)
         (case aO => exact (zcaken HO115.out))
         (case aS => exact (below_size zkmbdh))
         (case aL => have := LMc14.out; omega)
         intro v121 w23 ho hb hg hat
         rw [← Ny120.out] at ho
         replace BK101 := aa (blk_grown (g := gb101) (o := .cells #[.string a1_0, .int .i64 a1_1, .int .i64 a1_2, .int .i64 a1_3, .int .i64 a1_4] 44 (0, 0)) (zkjhpm BK101.out) hg (Kd.R_away HO115.out (fun _ hk => hk)))
         replace HB := aa (hb)
         have HO122 := aa (ho)
         clear HO115
         clear ho hb hg hat
         refine hK.out _ _ ⟨(blk_cell BK101.out 0).trans rfl, (blk_cell BK101.out 1).trans rfl, (blk_cell BK101.out 2).trans rfl, (blk_cell BK101.out 3).trans rfl, (blk_cell BK101.out 4).trans rfl⟩ (fun hHeld => ?_)
         clear hK K
         refine norm_ (a' := ?_) ?_ ?_
         rotate_left
         ·
          show Act.put _ (some 35) _ = _
          simp only [Act.put, List.setIfInBounds_toArray, List.set_cons_zero, List.set_cons_succ, i64_w, i32_w]
          rfl
         refine pure_ (i := 8) (N := some 4) (v := ?_) (a' := ?_) #[true, true, true, true, true, true, true, true, true] rfl rfl (any_of HT_.out (by kernel_rfl)) (fun _ _ _ h => h) (Or.inl ⟨by rfl, ?_⟩) ?_ ?_
         rotate_left
         ·
          intro w'
          go_simp
          with_reducible rfl
         rotate_left
         ·
          simp only [Act.put, List.setIfInBounds_toArray, List.set_cons_zero, List.set_cons_succ, i64_w, i32_w]
          rfl
         refine done_ (done_of HT_.out (by kernel_rfl)) ?_
         try go_wp2
         go_ret
         exact ⟨_, by first | rfl | (simp [errW_none, errW_some] <;> rfl) | (simp [*, errW_none, errW_some] <;> rfl), by (with_reducible repeat (first | apply Kd.R_alloc | apply Kd.R_drewN | apply Kd.R_drew)); exact Kd.R_mono HO122.out (fun _ hk => trivial), by repeat (first | (with_reducible first | exact HB.out | apply below_alloc | apply pw_below_drewN | apply below_drew1 | refine below_set ?_ GE101.out) | exact HB.out)⟩
        rw [if_neg c14] at H
        exact absurd H (by simp)
       rw [if_neg c11] at H
       exact absurd H (by simp)
      rw [if_neg c10] at H
      exact absurd H (by simp)
     rw [if_neg c9] at H
     exact absurd H (by simp)
    rw [if_neg c5] at H
    exact absurd H (by simp)
   ·
    rw [if_neg c4] at H
    have c4b0 : decide (x5_1 < (l0.length : Int)) = false := decide_eq_false c4
    clear c4
    obtain ⟨y123, hy123⟩ : ∃ y_ : List (S44), y_ = (([] : List (S44))) := ⟨_, rfl⟩
    replace H : (if 0 ≤ x5_1 then (if x5_1 ≤ (l0.length : Int) then ((some (l0.take (x5_1 : Int).toNat : List (S44))).bind fun y126 => (if y123.length + y126.length < 2932031007402 then ((some (y123 ++ y126 : List (S44))).bind fun y130 => (if y130.length < 2932031007402 then ((some (y130 ++ [(⟨a1_0, a1_1, a1_2, a1_3, a1_4⟩ : S44)] : List (S44))).bind fun y133 => ((some (l0.drop (x5_1 : Int).toNat : List (S44))).bind fun y136 => (if y133.length + y136.length < 2932031007402 then (some (y133 ++ y136)) else (none)))) else (none))) else (none))) else (none)) else (none)) = some r := by first | (rw [hy123]; with_reducible exact H) | (have H2_ := (Option.bind_some _ _).symm.trans H; rw [hy123]; with_reducible exact H2_) | (have H2_ := (Option.bind_some _ _).symm.trans H; with_reducible exact H2_) | with_reducible exact H | (rw [hy123]; exact H) | exact H
    have Ny123 := aa hy123
    clear hy123
    by_cases c24 : 0 ≤ x5_1
    ·
     rw [if_pos c24] at H
     have c24b0 := eq_true c24
     have c24b1 : decide (0 ≤ x5_1) = true := decide_eq_true c24
     clear c24
     by_cases c25 : x5_1 ≤ (l0.length : Int)
     ·
      rw [if_pos c25] at H
      have c25b0 := eq_true c25
      have c25b1 : decide (x5_1 ≤ (l0.length : Int)) = true := decide_eq_true c25
      clear c25
      obtain ⟨y126, hy126⟩ : ∃ y_ : List (S44), y_ = (l0.take (x5_1 : Int).toNat) := ⟨_, rfl⟩
      replace H : (if y123.length + y126.length < 2932031007402 then ((some (y123 ++ y126 : List (S44))).bind fun y130 => (if y130.length < 2932031007402 then ((some (y130 ++ [(⟨a1_0, a1_1, a1_2, a1_3, a1_4⟩ : S44)] : List (S44))).bind fun y133 => ((some (l0.drop (x5_1 : Int).toNat : List (S44))).bind fun y136 => (if y133.length + y136.length < 2932031007402 then (some (y133 ++ y136)) else (none)))) else (none))) else (none)) = some r := by first | (rw [hy126]; with_reducible exact H) | (have H2_ := (Option.bind_some _ _).symm.trans H; rw [hy126]; with_reducible exact H2_) | (have H2_ := (Option.bind_some _ _).symm.trans H; with_reducible exact H2_) | with_reducible exact H | (rw [hy126]; exact H) | exact H
      have Ny126 := aa hy126
      clear hy126
      by_cases c26 : y123.length + y126.length < 2932031007402
      ·
       rw [if_pos c26] at H
       have LMc26 := aa c26
       clear c26
       obtain ⟨y130, hy130⟩ : ∃ y_ : List (S44), y_ = (y123 ++ y126) := ⟨_, rfl⟩
       replace H : (if y130.length < 2932031007402 then ((some (y130 ++ [(⟨a1_0, a1_1, a1_2, a1_3, a1_4⟩ : S44)] : List (S44))).bind fun y133 => ((some (l0.drop (x5_1 : Int).toNat : List (S44))).bind fun y136 => (if y133.length + y136.length < 2932031007402 then (some (y133 ++ y136)) else (none)))) else (none)) = some r := by first | (rw [hy130]; with_reducible exact H) | (have H2_ := (Option.bind_some _ _).symm.trans H; rw [hy130]; with_reducible exact H2_) | (have H2_ := (Option.bind_some _ _).symm.trans H; with_reducible exact H2_) | with_reducible exact H | (rw [hy130]; exact H) | exact H
       have Ny130 := aa hy130
       clear hy130
       by_cases c27 : y130.length < 2932031007402
       ·
        rw [if_pos c27] at H
        have LMc27 := aa c27
        clear c27
        obtain ⟨y133, hy133⟩ : ∃ y_ : List (S44), y_ = (y130 ++ [(⟨a1_0, a1_1, a1_2, a1_3, a1_4⟩ : S44)]) := ⟨_, rfl⟩
        replace H : ((some (l0.drop (x5_1 : Int).toNat : List (S44))).bind fun y136 => (if y133.length + y136.length < 2932031007402 then (some (y133 ++ y136)) else (none))) = some r := by first | (rw [hy133]; with_reducible exact H) | (have H2_ := (Option.bind_some _ _).symm.trans H; rw [hy133]; with_reducible exact H2_) | (have H2_ := (Option.bind_some _ _).symm.trans H; with_reducible exact H2_) | with_reducible exact H | (rw [hy133]; exact H) | exact H
        have Ny133 := aa hy133
        clear hy133
        have c28b0 := eq_true (of_decide_eq_true zgglam : 0 ≤ x5_1)
        have c29b0 := eq_true (of_decide_eq_true zgglam : x5_1 ≤ (l0.length : Int))
        obtain ⟨y136, hy136⟩ : ∃ y_ : List (S44), y_ = (l0.drop (x5_1 : Int).toNat) := ⟨_, rfl⟩
        replace H : (if y133.length + y136.length < 2932031007402 then (some (y133 ++ y136)) else (none)) = some r := by first | (rw [hy136]; with_reducible exact H) | (have H2_ := (Option.bind_some _ _).symm.trans H; rw [hy136]; with_reducible exact H2_) | (have H2_ := (Option.bind_some _ _).symm.trans H; with_reducible exact H2_) | with_reducible exact H | (rw [hy136]; exact H) | exact H
        have Ny136 := aa hy136
        clear hy136
        by_cases c30 : y133.length + y136.length < 2932031007402
        ·
         rw [if_pos c30] at H
         have LMc30 := aa c30
         clear c30
         obtain ⟨y140, hy140⟩ : ∃ y_ : List (S44), y_ = (y133 ++ y136) := ⟨_, rfl⟩
         replace H : (some y140) = some r := by first | (rw [hy140]; with_reducible exact H) | (have H2_ := (Option.bind_some _ _).symm.trans H; rw [hy140]; with_reducible exact H2_) | (have H2_ := (Option.bind_some _ _).symm.trans H; with_reducible exact H2_) | with_reducible exact H | (rw [hy140]; exact H) | exact H
         have Ny140 := aa hy140
         clear hy140
         obtain rfl := Option.some.inj H
         try go_wp2
         replace BK101 := aa (blk_drew BK101.out)
         replace HB := aa (below_drew1 HB.out)
         refine start_ (n := 14) (S := fun w' => True) (ds := []) #[false, false, false, false, false, false, false, false, false, false, false, false, false, false] (by kernel_rfl) rfl rfl trivial (fun hHeld => ?_); refine with_tabW spec_l2Put.tab2 spec_l2Put.bits2 (fun HT_ HW_ => ?_)
         generalize wr.drew = w31 at BK101 HB hHeld ⊢
         refine pure_ (i := 0) (N := some 7) (v := ?_) (a' := ?_) #[true, false, false, false, false, false, false, false, false, false, false, false, false, false] rfl rfl (any_of HT_.out (by kernel_rfl)) (fun _ _ _ h => h) (Or.inl ⟨by rfl, ?_⟩) ?_ ?_
         rotate_left
         ·
          intro w'
          go_simp
          with_reducible rfl
         rotate_left
         ·
          simp only [Act.put, List.setIfInBounds_toArray, List.set_cons_zero, List.set_cons_succ, i64_w, i32_w]
          rfl
         refine pure_ (i := 1) (N := some 8) (v := ?_) (a' := ?_) #[true, true, false, false, false, false, false, false, false, false, false, false, false, false] rfl rfl (any_of HT_.out (by kernel_rfl)) (fun _ _ _ h => h) (Or.inl ⟨by rfl, ?_⟩) ?_ ?_
         rotate_left
         ·
          intro w'
          go_simp
          with_reducible rfl
         rotate_left
         ·
          simp only [Act.put, List.setIfInBounds_toArray, List.set_cons_zero, List.set_cons_succ, i64_w, i32_w]
          rfl
         refine pure_ (i := 2) (N := some 9) (v := ?_) (a' := ?_) #[true, true, true, false, false, false, false, false, false, false, false, false, false, false] rfl rfl (any_of HT_.out (by kernel_rfl)) (fun _ _ _ h => h) (Or.inl ⟨by rfl, ?_⟩) ?_ ?_
         rotate_left
         ·
          intro w'
          go_simp
          with_reducible rfl
         rotate_left
         ·
          simp only [Act.put, List.setIfInBounds_toArray, List.set_cons_zero, List.set_cons_succ, i64_w, i32_w]
          rfl
         refine pure_ (i := 3) (N := some 10) (v := ?_) (a' := ?_) #[true, true, true, true, false, false, false, false, false, false, false, false, false, false] rfl rfl (any_of HT_.out (by kernel_rfl)) (fun _ _ _ h => h) (Or.inl ⟨by rfl, ?_⟩) ?_ ?_
         rotate_left
         ·
          intro w'
          go_simp
          with_reducible rfl
         rotate_left
         ·
          simp only [Act.put, List.setIfInBounds_toArray, List.set_cons_zero, List.set_cons_succ, i64_w, i32_w]
          rfl
         refine pure_ (i := 4) (N := some 11) (v := ?_) (a' := ?_) #[true, true, true, true, true, false, false, false, false, false, false, false, false, false] rfl rfl (any_of HT_.out (by kernel_rfl)) (fun _ _ _ h => h) (Or.inl ⟨by rfl, ?_⟩) ?_ ?_
         rotate_left
         ·
          intro w'
          go_simp
          with_reducible rfl
         rotate_left
         ·
          simp only [Act.put, List.setIfInBounds_toArray, List.set_cons_zero, List.set_cons_succ, i64_w, i32_w]
          rfl
         refine pure_ (i := 5) (N := some 12) (v := undef) (a' := ?_) #[true, true, true, true, true, true, false, false, false, false, false, false, false, false] rfl rfl (any_of HT_.out (by kernel_rfl)) (fun _ _ _ h => h) (Or.inr ⟨by rfl, rfl⟩) ?_ ?_
         rotate_left
         ·
          simp only [Act.put, List.setIfInBounds_toArray, List.set_cons_zero, List.set_cons_succ, i64_w, i32_w]
          rfl
         refine pure_ (i := 6) (N := some 13) (v := undef) (a' := ?_) #[true, true, true, true, true, true, true, false, false, false, false, false, false, false] rfl rfl (any_of HT_.out (by kernel_rfl)) (fun _ _ _ h => h) (Or.inr ⟨by rfl, rfl⟩) ?_ ?_
         rotate_left
         ·
          simp only [Act.put, List.setIfInBounds_toArray, List.set_cons_zero, List.set_cons_succ, i64_w, i32_w]
          rfl
         refine pure_ (i := 7) (N := some 14) (v := undef) (a' := ?_) #[true, true, true, true, true, true, true, true, false, false, false, false, false, false] rfl rfl (any_of HT_.out (by kernel_rfl)) (fun _ _ _ h => h) (Or.inr ⟨by rfl, rfl⟩) ?_ ?_
         rotate_left
         ·
          simp only [Act.put, List.setIfInBounds_toArray, List.set_cons_zero, List.set_cons_succ, i64_w, i32_w]
          rfl
         refine pure_ (i := 8) (N := some 15) (v := undef) (a' := ?_) #[true, true, true, true, true, true, true, true, true, false, false, false, false, false] rfl rfl (any_of HT_.out (by kernel_rfl)) (fun _ _ _ h => h) (Or.inr ⟨by rfl, rfl⟩) ?_ ?_
         rotate_left
         ·
          simp only [Act.put, List.setIfInBounds_toArray, List.set_cons_zero, List.set_cons_succ, i64_w, i32_w]
          rfl
         refine pure_ (i := 9) (N := some 16) (v := undef) (a' := ?_) #[true, true, true, true, true, true, true, true, true, true, false, false, false, false] rfl rfl (any_of HT_.out (by kernel_rfl)) (fun _ _ _ h => h) (Or.inr ⟨by rfl, rfl⟩) ?_ ?_
         rotate_left
         ·
          simp only [Act.put, List.setIfInBounds_toArray, List.set_cons_zero, List.set_cons_succ, i64_w, i32_w]
          rfl
         refine pure_ (i := 10) (N := some 17) (v := undef) (a' := ?_) #[true, true, true, true, true, true, true, true, true, true, true, false, false, false] rfl rfl (any_of HT_.out (by kernel_rfl)) (fun _ _ _ h => h) (Or.inr ⟨by rfl, rfl⟩) ?_ ?_
         rotate_left
         ·
          simp only [Act.put, List.setIfInBounds_toArray, List.set_cons_zero, List.set_cons_succ, i64_w, i32_w]
          rfl
         refine pure_ (i := 11) (N := some 18) (v := undef) (a' := ?_) #[true, true, true, true, true, true, true, true, true, true, true, true, false, false] rfl rfl (any_of HT_.out (by kernel_rfl)) (fun _ _ _ h => h) (Or.inr ⟨by rfl, rfl⟩) ?_ ?_
         rotate_left
         ·
          simp only [Act.put, List.setIfInBounds_toArray, List.set_cons_zero, List.set_cons_succ, i64_w, i32_w]
          rfl
         refine pure_ (i := 12) (N := some 19) (v := undef) (a' := ?_) #[true, true, true, true, true, true, true, true, true, true, true, true, true, false] rfl rfl (any_of HT_.out (by kernel_rfl)) (fun _ _ _ h => h) (Or.inr ⟨by rfl, rfl⟩) ?_ ?_
         rotate_left
         ·
          simp only [Act.put, List.setIfInBounds_toArray, List.set_cons_zero, List.set_cons_succ, i64_w, i32_w]
          rfl
         refine pure_ (i := 13) (N := some 20) (v := ?_) (a' := ?_) #[true, true, true, true, true, true, true, true, true, true, true, true, true, true] rfl rfl (any_of HT_.out (by kernel_rfl)) (fun _ _ _ h => h) (Or.inl ⟨by rfl, ?_⟩) ?_ ?_
         rotate_left
         ·
          intro w'
          go_simp
          with_reducible rfl
         rotate_left
         ·
          simp only [Act.put, List.setIfInBounds_toArray, List.set_cons_zero, List.set_cons_succ, i64_w, i32_w]
          rfl
         refine done_ (done_of HT_.out (by kernel_rfl)) ?_
         try go_wp2_with (first | ((with_reducible refine gate_dst (N := 23) rfl ?_); refine Kd.R_lit k44 _ 44 ?hg (N := 23) ?hd (xs := ([] : List (S44))) (inner := []) (ok := fun _ => True) (okp := fun _ => True) ?hr ?hp (fun _ hk => hk) trivial (Below.refl _ _) (Nat.le_refl _) (by simp) ?_; (case hd => rfl); (case hg => rfl); (case hr => exact zhlgcp); (case hp => exact (Reps.none _ _)); intro v124 w32 ho33 hb hg_ hnew_; clear hg_ hnew_; (first | rw [← Ny123.out] at ho33 | (simp only [Int.reduceToNat] at ho33; rw [← Ny123.out] at ho33)); have HO125 := aa (Kd.R_lower (Kd.R_newB ho33 (g := gb101) (o := .cells #[.string a1_0, .int .i64 a1_1, .int .i64 a1_2, .int .i64 a1_3, .int .i64 a1_4] 44 (0, 0)) (zkjhpm BK101.out)) (below_size zkmbdh)); replace BK101 := aa (blk_below (g := gb101) (o := .cells #[.string a1_0, .int .i64 a1_1, .int .i64 a1_2, .int .i64 a1_3, .int .i64 a1_4] 44 (0, 0)) (zkjhpm BK101.out) hb); replace HB := aa (below_step zkmbdh hb); clear hb ho33; have q34 : (x5_1 : Int) ≤ ((l0.length : Int) : Int) := of_decide_eq_true zgglam; obtain ⟨i034, hi034, _, hsz34, _⟩ := info_parts info44; have hroom34 : l0.length ≤ c0 := HC0.out; have hC34 : Kd.C k44 _ A0 l0.length l0 := HR0.out; have hcut34 := cut_to (P := Tryd.prog) 25 44 .i64 Tryd.underlying25 hi034 A0 l0.length c0 x5_1 (of_decide_eq_true zgglam) q34 hroom34; have hr34 := Kd.C_take (m := (x5_1 : Int).toNat) hC34 (by omega); have hy34 : y126.length = (x5_1 : Int).toNat := (by rw [Ny126.out, List.length_take]; omega); rw [← Ny126.out] at hr34; rw [← hy34] at hcut34; have HR129 := aa hr34; have HC129 := aa (show y126.length ≤ c0 from by omega); clear hr34 hC34 hroom34 hi034 hsz34; have KY34 := aa hy34; clear hy34; replace q34 := eq_true q34) | ((with_reducible refine gate_builtin (b := .append) (xs := #[.tmp 23, .tmp 26]) rfl ?_); at_builtin; refine Kd.R_append_rows k44 (w0 := w) w.heap.size rfl (.tmp 23) (.tmp 26) 25 44 (.agg #[(.string ⟨#[]⟩), (.int .i64 0), (.int .i64 0), (.int .i64 0), (.int .i64 0)]) 48 rfl Tryd.underlying25 info44 rfl (by decide) (by omega) v124 y123 y126 _ _ _ (fun k_ => k_ ≠ gb101) (fun _ => False) rfl rfl ?aO ?aR (fun _ _ h => h) (fun _ h => h.elim) ?aF ?aB ?aS ?aL ?_; (case aR => repeat (first | exact (Kd.C_below HR129.out HB.out) | (with_reducible refine Kd.C_alloc ?_ _) | (with_reducible refine Kd.C_drewN ?_ _) | (with_reducible refine Kd.C_drew ?_))); (case aB => exact zkmbdh); (case aF => exact zppmlf); (case aO => exact (by (with_reducible repeat (first | apply Kd.R_alloc | apply Kd.R_drewN | apply Kd.R_drew)); exact Kd.R_mono HO125.out (fun _ hk => hk.2))); (case aS => exact (below_size zkmbdh)); (case aL => have := LMc26.out; omega); intro v131 w35 ho hb hg hat; rw [← Ny130.out] at ho; replace BK101 := aa (blk_grown (g := gb101) (o := .cells #[.string a1_0, .int .i64 a1_1, .int .i64 a1_2, .int .i64 a1_3, .int .i64 a1_4] 44 (0, 0)) (zkjhpm BK101.out) hg (Kd.R_away HO125.out (fun _ hk => hk.2))); replace HB := aa (hb); have HO132 := aa (ho); clear HO125; clear ho hb hg hat))
         replace HO132 := aa (Kd.R_drew HO132.out)
         replace BK101 := aa (blk_drew BK101.out)
         replace HB := aa (below_drew1 HB.out)
         have q37 : (x5_1 : Int) ≤ ((l0.length : Int) : Int) := of_decide_eq_true zgglam
         obtain ⟨i037, hi037, _, hsz37, _⟩ := info_parts info44
         have hroom37 : l0.length ≤ c0 := HC0.out
         have hC37 : Kd.C k44 _ A0 l0.length l0 := HR0.out
         have q037 : (0 : Int) ≤ (x5_1 : Int) := of_decide_eq_true zgglam
         have hcut37 := cut_from (P := Tryd.prog) 25 44 .i64 Tryd.underlying25 hi037 5 hsz37 A0 l0.length c0 x5_1 q037 q37
         have hr37 := Kd.C_drop (m := (x5_1 : Int).toNat) (c := c0) hC37 (by omega) hroom37
         obtain ⟨A37, hA37⟩ : ∃ A1, A1 = (if c0 = (x5_1 : Int).toNat then A0 else (A0 : Option Addr).map (·.add ((x5_1 : Int).toNat * 5))) := ⟨_, rfl⟩
         obtain ⟨c37, hc37⟩ : ∃ c1, c1 = c0 - (x5_1 : Int).toNat := ⟨_, rfl⟩
         have hy37 : y136.length = l0.length - (x5_1 : Int).toNat := (by rw [Ny136.out, List.length_drop] <;> omega)
         rw [show (l0).drop (x5_1 : Int).toNat = y136 from Ny136.out.symm] at hr37
         replace hr37 : Kd.C k44 _ A37 y136.length y136 := (by rw [hA37]; exact hr37)
         rw [← hy37, ← hA37, ← hc37] at hcut37
         have HR139 := aa hr37
         have HC139 := aa (show y136.length ≤ c37 from by rw [hy37, hc37]; exact Nat.sub_le_sub_right hroom37 _)
         clear hr37 hC37 hroom37 hi037 hsz37 hc37
         have KY37 := aa hy37
         have KA37 := aa hA37
         clear hy37 hA37
         replace q37 := eq_true q37
         refine start_ (n := 9) (S := fun w' => w'.cell? ⟨gb101, 0, none⟩ = some (.string a1_0) ∧ w'.cell? ⟨gb101, 1, none⟩ = some (.int .i64 a1_1) ∧ w'.cell? ⟨gb101, 2, none⟩ = some (.int .i64 a1_2) ∧ w'.cell? ⟨gb101, 3, none⟩ = some (.int .i64 a1_3) ∧ w'.cell? ⟨gb101, 4, none⟩ = some (.int .i64 a1_4)) (ds := []) #[false, false, false, false, false, false, false, false, false] (by kernel_rfl) rfl rfl ⟨(blk_cell BK101.out 0).trans rfl, (blk_cell BK101.out 1).trans rfl, (blk_cell BK101.out 2).trans rfl, (blk_cell BK101.out 3).trans rfl, (blk_cell BK101.out 4).trans rfl⟩ (fun hHeld => ?_); refine with_tabW spec_l2Put.tab5 spec_l2Put.bits5 (fun HT_ HW_ => ?_)
         generalize w35.drew = w36 at HO132 BK101 HB HR139 hHeld ⊢
         refine pure_ (i := 0) (N := some 28) (v := ?_) (a' := ?_) #[true, false, false, false, false, false, false, false, false] rfl rfl (any_of HT_.out (by kernel_rfl)) (fun _ _ _ h => h) (Or.inl ⟨by rfl, ?_⟩) ?_ ?_
         rotate_left
         ·
          intro w'
          go_simp
          with_reducible rfl
         rotate_left
         ·
          simp only [Act.put, List.setIfInBounds_toArray, List.set_cons_zero, List.set_cons_succ, i64_w, i32_w]
          rfl
         refine pure_ (i := 4) (N := some 32) (v := ?_) (a' := ?_) #[true, false, false, false, true, false, false, false, false] rfl rfl (any_of HT_.out (by kernel_rfl)) (fun _ _ _ h => h) (Or.inl ⟨by rfl, ?_⟩) ?_ ?_
         rotate_left
         ·
          intro w'
          go_simp
          with_reducible rfl
         rotate_left
         ·
          simp only [Act.put, List.setIfInBounds_toArray, List.set_cons_zero, List.set_cons_succ, i64_w, i32_w]
          rfl
         refine pure_ (i := 5) (N := some 33) (v := ?_) (a' := ?_) #[true, false, false, false, true, true, false, false, false] rfl rfl (any_of HT_.out (by kernel_rfl)) (fun _ _ _ h => h) (Or.inl ⟨by rfl, ?_⟩) ?_ ?_
         rotate_left
         ·
          intro w'
          go_simp
          with_reducible rfl
         rotate_left
         ·
          simp only [Act.put, List.setIfInBounds_toArray, List.set_cons_zero, List.set_cons_succ, i64_w, i32_w]
          rfl
         refine pure_ (i := 6) (N := some 34) (v := ?_) (a' := ?_) #[true, false, false, false, true, true, true, false, false] rfl rfl (any_of HT_.out (by kernel_rfl)) (fun _ _ _ h => h) (Or.inl ⟨by rfl, ?_⟩) ?_ ?_
         rotate_left
         ·
          intro w'
          go_simp
          with_reducible rfl
         rotate_left
         ·
          simp only [Act.put, List.setIfInBounds_toArray, List.set_cons_zero, List.set_cons_succ, i64_w, i32_w]
          rfl
         refine take_ (i := 1) (N := some 29) (v := ?_) (a' := ?_) #[true, true, false, false, true, true, true, false, false] rfl rfl (take_ofW HT_.out HW_.out (by kernel_rfl)) (fun _ _ _ h => h) (Or.inl ⟨by rfl, ?_⟩) hHeld ?_ ?_
         rotate_left
         ·
          rintro w' ⟨s0, s1, s2, s3, s4⟩
          go_simp
          with_reducible rfl
         rotate_left
         ·
          simp only [Act.put, List.setIfInBounds_toArray, List.set_cons_zero, List.set_cons_succ, i64_w, i32_w]
          rfl
         refine one_ (i := 2) (N := some 30) #[true, true, true, false, true, true, true, false, false] rfl rfl (one_of HT_.out (by kernel_rfl)) (by decide) (fun K hK => ?_)
         refine value_ (w1 := ?_) (v := ?_) (by rfl) rfl ?_ ?_
         rotate_left 2
         ·
          go_simp
          constructor
          ·
           rfl
          rfl
         refine hK.out _ _ ⟨(blk_cell (blk_alloc BK101.out _) 0).trans rfl, (blk_cell (blk_alloc BK101.out _) 1).trans rfl, (blk_cell (blk_alloc BK101.out _) 2).trans rfl, (blk_cell (blk_alloc BK101.out _) 3).trans rfl, (blk_cell (blk_alloc BK101.out _) 4).trans rfl⟩ (fun hHeld => ?_)
         clear hK K
         refine norm_ (a' := ?_) ?_ ?_
         rotate_left
         ·
          show Act.put _ (some 30) _ = _
          simp only [Act.put, List.setIfInBounds_toArray, List.set_cons_zero, List.set_cons_succ, i64_w, i32_w]
          rfl
         refine one_ (i := 3) (N := some 31) #[true, true, true, true, true, true, true, false, false] rfl rfl (one_of HT_.out (by kernel_rfl)) (by decide) (fun K hK => ?_)
         refine Kd.R_append_step k44 (w0 := w) w.heap.size (by rfl) (.tmp 28) (.tmp 30) 25 44 (.agg #[(.string ⟨#[]⟩), (.int .i64 0), (.int .i64 0), (.int .i64 0), (.int .i64 0)]) 48 rfl Tryd.underlying25 info44 rfl (by decide) (by omega) v131 y130 (⟨a1_0, a1_1, a1_2, a1_3, a1_4⟩ : S44) [.string a1_0, .int .i64 a1_1, .int .i64 a1_2, .int .i64 a1_3, .int .i64 a1_4] (fun k_ => k_ ≠ gb101) (fun _ => False) rfl rfl ?aP (fun _ hk => hk.elim) ?aF ?aO ?aB ?aS ?aL ?_
         (case aP => exact k44_mkM _ _ _ (⟨a1_0, a1_1, a1_2, a1_3, a1_4⟩ : S44))
         (case aB => exact zkmbdh)
         (case aF => exact zppmlf)
         (case aO => exact (zcaken HO132.out))
         (case aS => exact (below_size zkmbdh))
         (case aL => have := LMc27.out; omega)
         intro v134 w38 ho hb hg hat
         rw [← Ny133.out] at ho
         replace BK101 := aa (blk_grown (g := gb101) (o := .cells #[.string a1_0, .int .i64 a1_1, .int .i64 a1_2, .int .i64 a1_3, .int .i64 a1_4] 44 (0, 0)) (zkjhpm BK101.out) hg (Kd.R_away HO132.out (fun _ hk => hk)))
         replace HB := aa (hb)
         have HO135 := aa (ho)
         clear HO132
         clear ho hb hg hat
         refine hK.out _ _ ⟨(blk_cell BK101.out 0).trans rfl, (blk_cell BK101.out 1).trans rfl, (blk_cell BK101.out 2).trans rfl, (blk_cell BK101.out 3).trans rfl, (blk_cell BK101.out 4).trans rfl⟩ (fun hHeld => ?_)
         clear hK K
         refine norm_ (a' := ?_) ?_ ?_
         rotate_left
         ·
          show Act.put _ (some 31) _ = _
          simp only [Act.put, List.setIfInBounds_toArray, List.set_cons_zero, List.set_cons_succ, i64_w, i32_w]
          rfl
         refine one_ (i := 7) (N := some 35) #[true, true, true, true, true, true, true, true, false] rfl rfl (one_of HT_.out (by kernel_rfl)) (by decide) (fun K hK => ?_)
         refine Kd.R_append_rows_step k44 (w0 := w) w.heap.size (by rfl) (.tmp 31) (.tmp 34) 25 44 (.agg #[(.string ⟨#[]⟩), (.int .i64 0), (.int .i64 0), (.int .i64 0), (.int .i64 0)]) 48 rfl Tryd.underlying25 info44 rfl (by decide) (by omega) v134 y133 y136 _ _ _ (fun k_ => k_ ≠ gb101) (fun _ => False) rfl rfl ?aO ?aR (fun _ _ h => h) (fun _ h => h.elim) ?aF ?aB ?aS ?aL ?_
         (case aR => repeat (first | exact (Kd.C_below HR139.out HB.out) | (with_reducible refine Kd.C_alloc ?_ _) | (with_reducible refine Kd.C_drewN ?_ _) | (with_reducible refine Kd.C_drew ?_)))
         (case aB => exact zkmbdh)
         (case aF => exact zppmlf)
         (case aO => exact (zcaken HO135.out))
         (case aS => exact (below_size zkmbdh))
         (case aL => have := LMc30.out; omega)
         intro v141 w39 ho hb hg hat
         rw [← Ny140.out] at ho
         replace BK101 := aa (blk_grown (g := gb101) (o := .cells #[.string a1_0, .int .i64 a1_1, .int .i64 a1_2, .int .i64 a1_3, .int .i64 a1_4] 44 (0, 0)) (zkjhpm BK101.out) hg (Kd.R_away HO135.out (fun _ hk => hk)))
         replace HB := aa (hb)
         have HO142 := aa (ho)
         clear HO135
         clear ho hb hg hat
         refine hK.out _ _ ⟨(blk_cell BK101.out 0).trans rfl, (blk_cell BK101.out 1).trans rfl, (blk_cell BK101.out 2).trans rfl, (blk_cell BK101.out 3).trans rfl, (blk_cell BK101.out 4).trans rfl⟩ (fun hHeld => ?_)
         clear hK K
         refine norm_ (a' := ?_) ?_ ?_
         rotate_left
         ·
          show Act.put _ (some 35) _ = _
          simp only [Act.put, List.setIfInBounds_toArray, List.set_cons_zero, List.set_cons_succ, i64_w, i32_w]
          rfl
         refine pure_ (i := 8) (N := some 4) (v := ?_) (a' := ?_) #[true, true, true, true, true, true, true, true, true] rfl rfl (any_of HT_.out (by kernel_rfl)) (fun _ _ _ h => h) (Or.inl ⟨by rfl, ?_⟩) ?_ ?_
         rotate_left
         ·
          intro w'
          go_simp
          with_reducible rfl
         rotate_left
         ·
          simp only [Act.put, List.setIfInBounds_toArray, List.set_cons_zero, List.set_cons_succ, i64_w, i32_w]
          rfl
         refine done_ (done_of HT_.out (by kernel_rfl)) ?_
         try go_wp2
         go_ret
         exact ⟨_, by first | rfl | (simp [errW_none, errW_some] <;> rfl) | (simp [*, errW_none, errW_some] <;> rfl), by (with_reducible repeat (first | apply Kd.R_alloc | apply Kd.R_drewN | apply Kd.R_drew)); exact Kd.R_mono HO142.out (fun _ hk => trivial), by repeat (first | (with_reducible first | exact HB.out | apply below_alloc | apply pw_below_drewN | apply below_drew1 | refine below_set ?_ GE101.out) | exact HB.out)⟩
        rw [if_neg c30] at H
        exact absurd H (by simp)
       rw [if_neg c27] at H
       exact absurd H (by simp)
      rw [if_neg c26] at H
      exact absurd H (by simp)
     rw [if_neg c25] at H
     exact absurd H (by simp)
    rw [if_neg c24] at H
    exact absurd H (by simp)
/-! ### spec_l2Create: function 66 -/
mutual
def spec_l2Create.j0 : Nat → List (S44) → ByteArray → Int → Int → Bool → Bool → Option (Int × ByteArray × (List (S44)))
 | 0, _, _, _, _, _, _ => none
 | k + 1, x0, x1, x2, x3, x4, x23 => if x23 = true then ((spec_l2Bad.f 3).bind fun bt104 => (some (bt104.1, bt104.2.1, bt104.2.2))) else (if x1.toList = ([47] : List UInt8) then ((spec_l2Bad.f 1).bind fun bt109 => (some (bt109.1, bt109.2.1, bt109.2.2))) else ((spec_l1Parent.f k x1).bind fun t114 => ((spec_l2At.f k x0 t114).bind fun t115 => (if t115 < 0 then ((spec_l2Bad.f 4).bind fun bt116 => (some (bt116.1, bt116.2.1, bt116.2.2))) else (if 0 ≤ t115 then (if t115 < (x0.length : Int) then (if ((rd_T44 x0 t115).f3) = 0 then ((spec_l2Copy.f x0).bind fun t127 => (if x4 = true then (if ((rd_T44 x0 t115).f4) ≥ 100 then ((spec_l2Bad.f 3).bind fun bt131 => (some (bt131.1, bt131.2.1, bt131.2.2))) else ((spec_l1Last.f k x1).bind fun t136 => (if 0 ≤ (wrap64 (t136 + 1)) then (if (wrap64 (t136 + 1)) ≤ (x1.size : Int) then ((spec_l1Seq.f k (x1.extract ((wrap64 (t136 + 1)) : Int).toNat x1.size) ((rd_T44 x0 t115).f4)).bind fun t137 => ((spec_l1Name.f k t137).bind fun t138 => (if t138 = true then ((spec_l1Parent.f k x1).bind fun t144 => ((spec_l1Seq.f k (x1.extract ((wrap64 (t136 + 1)) : Int).toNat x1.size) ((rd_T44 x0 t115).f4)).bind fun t145 => ((spec_l1Join.f t144 t145).bind fun t146 => ((spec_l1Fault.f k t146).bind fun t147 => (if t147 = 0 then (if t115 < (t127.length : Int) then (spec_l2Create.j1 k x0 t146 x2 x3 (t127.set (t115 : Int).toNat (⟨(rd_T44 t127 t115).f0, (rd_T44 t127 t115).f1, (rd_T44 t127 t115).f2, (rd_T44 t127 t115).f3, wrap64 (((rd_T44 x0 t115).f4) + 1)⟩ : S44))) else (none)) else ((spec_l2Bad.f t147).bind fun bt149 => (some (bt149.1, bt149.2.1, bt149.2.2)))))))) else ((spec_l2Bad.f 5).bind fun bt139 => (some (bt139.1, bt139.2.1, bt139.2.2)))))) else (none)) else (none)))) else (spec_l2Create.j1 k x0 x1 x2 x3 t127))) else ((spec_l2Bad.f 8).bind fun bt122 => (some (bt122.1, bt122.2.1, bt122.2.2)))) else (none)) else (none))))))
def spec_l2Create.j1 : Nat → List (S44) → ByteArray → Int → Int → List (S44) → Option (Int × ByteArray × (List (S44)))
 | 0, _, _, _, _, _ => none
 | k + 1, x0, x1, x2, x3, x12 => (spec_l2At.f k x0 x1).bind fun t154 => (if t154 ≥ 0 then ((spec_l2Bad.f 6).bind fun bt155 => (some (bt155.1, bt155.2.1, bt155.2.2))) else (if (x0.length : Int) ≥ 20 then ((spec_l2Bad.f 2).bind fun bt160 => (some (bt160.1, bt160.2.1, bt160.2.2))) else ((spec_l2Put.f k x12 x1 x2 0 x3 0).bind fun t165 => (some (0, x1, t165)))))
end
def spec_l2Create.f (k : Nat) (l0 : List (S44)) (a1 : ByteArray) (a2 : Int) (a3 : Int) (a4 : Bool) : Option (Int × ByteArray × (List (S44))) := (spec_l2Data.f a2).bind fun t102 => (if t102 = true then ((spec_l2Owner.f a3).bind fun t103 => (spec_l2Create.j0 k l0 a1 a2 a3 a4 (!t103))) else (spec_l2Create.j0 k l0 a1 a2 a3 a4 true))
theorem spec_l2Create.mono_l : ∀ k, (∀ y0 y1 y2 y3 y4 y5, LeO (spec_l2Create.j0 k y0 y1 y2 y3 y4 y5) (spec_l2Create.j0 (k + 1) y0 y1 y2 y3 y4 y5)) ∧ (∀ y0 y1 y2 y3 y4, LeO (spec_l2Create.j1 k y0 y1 y2 y3 y4) (spec_l2Create.j1 (k + 1) y0 y1 y2 y3 y4))
 | 0 => ⟨fun _ _ _ _ _ _ r h => by simp [spec_l2Create.j0] at h, fun _ _ _ _ _ r h => by simp [spec_l2Create.j1] at h⟩
 | k + 1 => by
  obtain ⟨ih0, ih1⟩ := spec_l2Create.mono_l k
  refine ⟨?_, ?_⟩
  ·
   intro y0 y1 y2 y3 y4 y5
   unfold spec_l2Create.j0
   repeat' first
   | (with_reducible exact ih0 _ _ _ _ _ _)
   | (with_reducible exact ih1 _ _ _ _ _)
   | (with_reducible exact spec_l1Fault.mono _ _)
   | (with_reducible exact spec_l1Last.mono _ _)
   | (with_reducible exact spec_l1Name.mono _ _)
   | (with_reducible exact spec_l1Parent.mono _ _)
   | (with_reducible exact spec_l1Seq.mono _ _ _)
   | (with_reducible exact spec_l2At.mono _ _ _)
   | (with_reducible exact spec_l2Put.mono _ _ _ _ _ _ _)
   | (with_reducible exact LeO.refl _)
   | (with_reducible exact LeO.none _)
   | (with_reducible refine LeO.ite ?_ ?_)
   | (with_reducible refine LeO.bind ?_ (fun _ => ?_))
  ·
   intro y0 y1 y2 y3 y4
   unfold spec_l2Create.j1
   repeat' first
   | (with_reducible exact ih0 _ _ _ _ _ _)
   | (with_reducible exact ih1 _ _ _ _ _)
   | (with_reducible exact spec_l1Fault.mono _ _)
   | (with_reducible exact spec_l1Last.mono _ _)
   | (with_reducible exact spec_l1Name.mono _ _)
   | (with_reducible exact spec_l1Parent.mono _ _)
   | (with_reducible exact spec_l1Seq.mono _ _ _)
   | (with_reducible exact spec_l2At.mono _ _ _)
   | (with_reducible exact spec_l2Put.mono _ _ _ _ _ _ _)
   | (with_reducible exact LeO.refl _)
   | (with_reducible exact LeO.none _)
   | (with_reducible refine LeO.ite ?_ ?_)
   | (with_reducible refine LeO.bind ?_ (fun _ => ?_))
theorem spec_l2Create.mono : ∀ a0 a1 a2 a3 a4 k, LeO (spec_l2Create.f k a0 a1 a2 a3 a4) (spec_l2Create.f (k + 1) a0 a1 a2 a3 a4) := by
 intro a0 a1 a2 a3 a4 k
 obtain ⟨ih0, ih1⟩ := spec_l2Create.mono_l k
 unfold spec_l2Create.f
 repeat' first
   | (with_reducible exact ih0 _ _ _ _ _ _)
   | (with_reducible exact ih1 _ _ _ _ _)
   | (with_reducible exact spec_l1Fault.mono _ _)
   | (with_reducible exact spec_l1Last.mono _ _)
   | (with_reducible exact spec_l1Name.mono _ _)
   | (with_reducible exact spec_l1Parent.mono _ _)
   | (with_reducible exact spec_l1Seq.mono _ _ _)
   | (with_reducible exact spec_l2At.mono _ _ _)
   | (with_reducible exact spec_l2Put.mono _ _ _ _ _ _ _)
   | (with_reducible exact LeO.refl _)
   | (with_reducible exact LeO.none _)
   | (with_reducible refine LeO.ite ?_ ?_)
   | (with_reducible refine LeO.bind ?_ (fun _ => ?_))
theorem spec_l2Create.calls (k : Nat) (A0 : Option Addr) (c0 : Nat) (l0 : List (S44)) (a1 : ByteArray) (a2 : Int) (a3 : Int) (a4 : Bool) (r1 : Int) (r2 : ByteArray) (r3 : List (S44)) (w : World) (hr0 : Kd.C k44 w A0 l0.length l0) (hc0 : l0.length ≤ c0) (h : spec_l2Create.f k l0 a1 a2 a3 a4 = some (r1, r2, r3)) :
  Calls Tryd.prog 66 #[.slice A0 l0.length c0, .string a1, .int .i64 a2, .int .i64 a3, .bool a4] w fun e w' => ∃ v2_ : Value, e = .returned (.agg #[.int .i64 r1, .string r2, v2_]) ∧ Kd.R k44 44 w' w.heap.size (fun _ => True) v2_ r3 ∧ Below w.heap.size w w' := by
 have hu27 := Tryd.underlying27
 have hu44 := Tryd.underlying44
 have HR0 := aa hr0
 have HC0 := aa hc0
 clear hr0 hc0
 have HB := aa (Below.refl w.heap.size w)
 have H : ((spec_l2Data.f a2).bind fun t102 => (if t102 = true then ((spec_l2Owner.f a3).bind fun t103 => (spec_l2Create.j0 k l0 a1 a2 a3 a4 (!t103))) else (spec_l2Create.j0 k l0 a1 a2 a3 a4 true))) = some (r1, r2, r3) := h
 clear h
 have HC6 := aa H
 clear H
 go_enter Tryd.func66, Tryd.ntmps66
 go_upto_region 1 with (first | ((with_reducible refine gate_dst (N := 10) rfl ?_); refine box_event ?hg (N := 10) ?hd (cs := #[.int .i64 0, .string (⟨#[]⟩ : ByteArray), .slice none 0 0]) (t := 27) ?hr ?_; (case hd => rfl); (case hg => rfl); (case hr => exact zhlgcp); intro gb101 hg w7 hbox hb; have n0_ := aa (below_step zjjbob hb); have n1_ := aa (hbox); have n2_ := aa ((zkpfjp : w.heap.size ≤ gb101)); have n3_ := aa ((zkpfjp : w.heap.size ≤ gb101)); clear HB; have HB := n0_; have BK101 := n1_; have GW101 := n2_; have GE101 := n3_; clear n0_ n1_ n2_ n3_; clear hb hbox hg))
 (try simp only [Act.put, List.setIfInBounds_toArray, List.set_cons_zero, List.set_cons_succ])
 go_cut [23] (fun v23 wc => ∃ (kq : Nat) (x23_5 : Bool), v23 = .bool x23_5 ∧ Aside0 (spec_l2Create.j0 kq l0 a1 a2 a3 a4 x23_5 = some (r1, r2, r3)) ∧ Aside0 (kq ≤ k) ∧ Aside0 (wc.heap[gb101]? = some (.cells #[.int .i64 0, .string (⟨#[]⟩ : ByteArray), (.slice none 0 0)] 27 (0, 0))) ∧ Aside0 (Below w.heap.size w wc))
 case first =>
  have H := HC6.out
  clear HC6
  revert H
  refine obs_ fun t102 A8 H => ?_
  by_cases c9 : t102 = true
  ·
   subst c9
   replace H : ((spec_l2Owner.f a3).bind fun t103 => (spec_l2Create.j0 k l0 a1 a2 a3 a4 (!t103))) = some (r1, r2, r3) := by rw [if_pos rfl] at H; exact H
   revert H
   refine obs_ fun t103 A10 H => ?_
   have H' := aa H
   clear H
   go_wp2_with (first | ((with_reducible refine gate_callee (f := 40) rfl ?_); refine goesL_ (some 17) rfl rfl Tryd.func40 (by kernel_rfl) rfl #[.int .i64 a2] rfl zjnmae ?_; (with_reducible refine (spec_l2Data.calls a2 true _ A8.out).mono ?_); rintro e w' ⟨rfl, ⟨nd, rfl⟩⟩; refine ⟨_, rfl, ?_⟩) | (go_at_call 42; (with_reducible refine (spec_l2Owner.calls a3 t103 _ A10.out).mono ?_); rintro e w' ⟨rfl, ⟨nd, rfl⟩⟩))
   go_meet
   case rel => exact ⟨_, (!t103), zagbkp, H', ⟨by first | omega | exact Nat.le_refl _⟩, ⟨by (with_reducible repeat (first | refine blk_drewN ?_ _ | refine blk_drew ?_ | refine blk_alloc ?_ _)); exact BK101.out⟩, ⟨by repeat (first | (with_reducible first | exact HB.out | apply below_alloc | apply pw_below_drewN | apply below_drew1 | refine below_set ?_ GE101.out) | exact HB.out)⟩⟩
  replace c9 := Bool.eq_false_iff.mpr c9
  subst c9
  replace H : (spec_l2Create.j0 k l0 a1 a2 a3 a4 true) = some (r1, r2, r3) := by rw [if_neg (show ¬ (false = true) by decide)] at H; exact H
  have H' := aa H
  clear H
  go_wp2_with (first | ((with_reducible refine gate_callee (f := 40) rfl ?_); refine goesL_ (some 17) rfl rfl Tryd.func40 (by kernel_rfl) rfl #[.int .i64 a2] rfl zjnmae ?_; (with_reducible refine (spec_l2Data.calls a2 false _ A8.out).mono ?_); rintro e w' ⟨rfl, ⟨nd, rfl⟩⟩; refine ⟨_, rfl, ?_⟩))
  go_meet
  case rel => exact ⟨_, (true), zagbkp, H', ⟨by first | omega | exact Nat.le_refl _⟩, ⟨by (with_reducible repeat (first | refine blk_drewN ?_ _ | refine blk_drew ?_ | refine blk_alloc ?_ _)); exact BK101.out⟩, ⟨by repeat (first | (with_reducible first | exact HB.out | apply below_alloc | apply pw_below_drewN | apply below_drew1 | refine below_set ?_ GE101.out) | exact HB.out)⟩⟩
 case rest =>
  clear HC6
  try clear p2
  try clear c4
  try clear c6
  try clear c9
  obtain ⟨kq, x23_5, rfl, HA, HJ5, BK101, HB⟩ := hcut
  cases kq with
  | zero => exact absurd HA.out (by simp [spec_l2Create.j0])
  | succ kj5 =>
   have H := HA.out
   clear HA
   simp only [spec_l2Create.j0] at H
   by_cases c11 : x23_5 = true
   ·
    subst c11
    replace H : ((spec_l2Bad.f 3).bind fun bt104 => (some (bt104.1, bt104.2.1, bt104.2.2))) = some (r1, r2, r3) := by rw [if_pos rfl] at H; exact H
    replace H := Option.bind_eq_some_iff.mp H
    obtain ⟨⟨t104, t105, t106⟩, A120, H⟩ := H
    replace H : (some (t104, t105, t106)) = some (r1, r2, r3) := H
    have A12 := aa A120
    clear A120
    simp only [Option.some.injEq, Prod.mk.injEq] at H
    obtain ⟨rfl, rfl, rfl⟩ := H
    go_wp2_with (first | ((with_reducible refine gate_callee (f := 24) rfl ?_); refine goesL_ (some 24) rfl rfl Tryd.func24 (by kernel_rfl) rfl #[.int .i64 3] rfl zjnmae ?_; (with_reducible refine (spec_l2Bad.calls 3 t104 t105 t106 _ A12.out).mono ?_); rintro e w13 ⟨v107, rfl, ho0, hb⟩; refine ⟨_, rfl, ?_⟩; have HO108 := aa (Kd.R_lower ho0 (below_size zkmbdh)); replace BK101 := aa (blk_below (g := gb101) (o := .cells #[.int .i64 0, .string (⟨#[]⟩ : ByteArray), .slice none 0 0] 27 (0, 0)) (zkjhpm BK101.out) hb); replace HB := aa (below_step zkmbdh hb); (try clear hb); (try clear hk); (try clear hi); (try clear ho0); have hcz14_0 : w13.cell? ⟨gb101, 0, none⟩ = some (.int .i64 0) := (blk_cell BK101.out 0).trans rfl; have hcz14_1 : w13.cell? ⟨gb101, 1, none⟩ = some (.string (⟨#[]⟩ : ByteArray)) := (blk_cell BK101.out 1).trans rfl; have hcz14_2 : w13.cell? ⟨gb101, 2, none⟩ = some (.slice none 0 0) := (blk_cell BK101.out 2).trans rfl; have hfz14_0 := blk_frozen BK101.out 0; have hfz14_1 := blk_frozen BK101.out 1; have hfz14_2 := blk_frozen BK101.out 2; obtain ⟨Ao15, co15, eo15⟩ := Kd.R_slice HO108.out; subst eo15))
    refine bodyPost_ret (results_cell_row rfl _ _ gb101 27 #[.int .i64 t104, .string t105, .slice Ao15 t106.length co15] (0, 0) _ rfl (by (with_reducible repeat (first | refine blk_drewN ?_ _ | refine blk_drew ?_ | refine blk_alloc ?_ _)); refine blk_put (cs := #[.int .i64 t104, .string t105, .slice none 0 0]) ?_ 2 _ rfl; (with_reducible repeat (first | refine blk_drewN ?_ _ | refine blk_drew ?_ | refine blk_alloc ?_ _)); refine blk_put (cs := #[.int .i64 t104, .string (⟨#[]⟩ : ByteArray), .slice none 0 0]) ?_ 1 _ rfl; (with_reducible repeat (first | refine blk_drewN ?_ _ | refine blk_drew ?_ | refine blk_alloc ?_ _)); refine blk_put (cs := #[.int .i64 0, .string (⟨#[]⟩ : ByteArray), .slice none 0 0]) ?_ 0 _ rfl; (with_reducible repeat (first | refine blk_drewN ?_ _ | refine blk_drew ?_ | refine blk_alloc ?_ _)); exact BK101.out) Tryd.underlying27 rfl (by kernel_rfl)) rfl ?_
    exact ⟨_, by first | rfl | (simp [errW_none, errW_some] <;> rfl) | (simp [*, errW_none, errW_some] <;> rfl), by (with_reducible repeat (first | apply Kd.R_alloc | apply Kd.R_drewN | apply Kd.R_drew)); exact Kd.R_mono (Kd.R_far (p := ⟨gb101, 2, none⟩) (Kd.R_far (p := ⟨gb101, 1, none⟩) (Kd.R_far (p := ⟨gb101, 0, none⟩) (Kd.R_types HO108.out BK101.out (by decide)) (fun _ hk => hk.2) (.int .i64 t104)) (fun _ hk => hk.2) (.string t105)) (fun _ hk => hk.2) (.slice Ao15 t106.length co15)) (fun _ hk => trivial), by repeat (first | (with_reducible first | exact HB.out | apply below_alloc | apply pw_below_drewN | apply below_drew1 | refine below_set ?_ GE101.out) | exact HB.out)⟩
   ·
    replace c11 := Bool.eq_false_iff.mpr c11
    subst c11
    replace H : (if a1.toList = ([47] : List UInt8) then ((spec_l2Bad.f 1).bind fun bt109 => (some (bt109.1, bt109.2.1, bt109.2.2))) else ((spec_l1Parent.f kj5 a1).bind fun t114 => ((spec_l2At.f kj5 l0 t114).bind fun t115 => (if t115 < 0 then ((spec_l2Bad.f 4).bind fun bt116 => (some (bt116.1, bt116.2.1, bt116.2.2))) else (if 0 ≤ t115 then (if t115 < (l0.length : Int) then (if ((rd_T44 l0 t115).f3) = 0 then ((spec_l2Copy.f l0).bind fun t127 => (if a4 = true then (if ((rd_T44 l0 t115).f4) ≥ 100 then ((spec_l2Bad.f 3).bind fun bt131 => (some (bt131.1, bt131.2.1, bt131.2.2))) else ((spec_l1Last.f kj5 a1).bind fun t136 => (if 0 ≤ (wrap64 (t136 + 1)) then (if (wrap64 (t136 + 1)) ≤ (a1.size : Int) then ((spec_l1Seq.f kj5 (a1.extract ((wrap64 (t136 + 1)) : Int).toNat a1.size) ((rd_T44 l0 t115).f4)).bind fun t137 => ((spec_l1Name.f kj5 t137).bind fun t138 => (if t138 = true then ((spec_l1Parent.f kj5 a1).bind fun t144 => ((spec_l1Seq.f kj5 (a1.extract ((wrap64 (t136 + 1)) : Int).toNat a1.size) ((rd_T44 l0 t115).f4)).bind fun t145 => ((spec_l1Join.f t144 t145).bind fun t146 => ((spec_l1Fault.f kj5 t146).bind fun t147 => (if t147 = 0 then (if t115 < (t127.length : Int) then (spec_l2Create.j1 kj5 l0 t146 a2 a3 (t127.set (t115 : Int).toNat (⟨(rd_T44 t127 t115).f0, (rd_T44 t127 t115).f1, (rd_T44 t127 t115).f2, (rd_T44 t127 t115).f3, wrap64 (((rd_T44 l0 t115).f4) + 1)⟩ : S44))) else (none)) else ((spec_l2Bad.f t147).bind fun bt149 => (some (bt149.1, bt149.2.1, bt149.2.2)))))))) else ((spec_l2Bad.f 5).bind fun bt139 => (some (bt139.1, bt139.2.1, bt139.2.2)))))) else (none)) else (none)))) else (spec_l2Create.j1 kj5 l0 a1 a2 a3 t127))) else ((spec_l2Bad.f 8).bind fun bt122 => (some (bt122.1, bt122.2.1, bt122.2.2)))) else (none)) else (none)))))) = some (r1, r2, r3) := by rw [if_neg (show ¬ (false = true) by decide)] at H; exact H
    by_cases c16 : a1.toList = ([47] : List UInt8)
    ·
     rw [if_pos c16] at H
     have c16b0 : (a1.toList == ([47] : List UInt8)) = true := beq_iff_eq.mpr c16
     have c16b1 : (a1.toList != ([47] : List UInt8)) = false := bne_eq_false_iff_eq.mpr c16
     clear c16
     replace H := Option.bind_eq_some_iff.mp H
     obtain ⟨⟨t109, t110, t111⟩, A170, H⟩ := H
     replace H : (some (t109, t110, t111)) = some (r1, r2, r3) := H
     have A17 := aa A170
     clear A170
     simp only [Option.some.injEq, Prod.mk.injEq] at H
     obtain ⟨rfl, rfl, rfl⟩ := H
     go_wp2_with (first | ((with_reducible refine gate_callee (f := 24) rfl ?_); refine goesL_ (some 27) rfl rfl Tryd.func24 (by kernel_rfl) rfl #[.int .i64 1] rfl zjnmae ?_; (with_reducible refine (spec_l2Bad.calls 1 t109 t110 t111 _ A17.out).mono ?_); rintro e w18 ⟨v112, rfl, ho0, hb⟩; refine ⟨_, rfl, ?_⟩; have HO113 := aa (Kd.R_lower ho0 (below_size zkmbdh)); replace BK101 := aa (blk_below (g := gb101) (o := .cells #[.int .i64 0, .string (⟨#[]⟩ : ByteArray), .slice none 0 0] 27 (0, 0)) (zkjhpm BK101.out) hb); replace HB := aa (below_step zkmbdh hb); (try clear hb); (try clear hk); (try clear hi); (try clear ho0); have hcz19_0 : w18.cell? ⟨gb101, 0, none⟩ = some (.int .i64 0) := (blk_cell BK101.out 0).trans rfl; have hcz19_1 : w18.cell? ⟨gb101, 1, none⟩ = some (.string (⟨#[]⟩ : ByteArray)) := (blk_cell BK101.out 1).trans rfl; have hcz19_2 : w18.cell? ⟨gb101, 2, none⟩ = some (.slice none 0 0) := (blk_cell BK101.out 2).trans rfl; have hfz19_0 := blk_frozen BK101.out 0; have hfz19_1 := blk_frozen BK101.out 1; have hfz19_2 := blk_frozen BK101.out 2; obtain ⟨Ao20, co20, eo20⟩ := Kd.R_slice HO113.out; subst eo20))
     refine bodyPost_ret (results_cell_row rfl _ _ gb101 27 #[.int .i64 t109, .string t110, .slice Ao20 t111.length co20] (0, 0) _ rfl zblijj Tryd.underlying27 rfl (by kernel_rfl)) rfl ?_
     exact ⟨_, by first | rfl | (simp [errW_none, errW_some] <;> rfl) | (simp [*, errW_none, errW_some] <;> rfl), by (with_reducible repeat (first | apply Kd.R_alloc | apply Kd.R_drewN | apply Kd.R_drew)); exact Kd.R_mono (Kd.R_far (p := ⟨gb101, 2, none⟩) (Kd.R_far (p := ⟨gb101, 1, none⟩) (Kd.R_far (p := ⟨gb101, 0, none⟩) (Kd.R_types HO113.out BK101.out (by decide)) (fun _ hk => hk.2) (.int .i64 t109)) (fun _ hk => hk.2) (.string t110)) (fun _ hk => hk.2) (.slice Ao20 t111.length co20)) (fun _ hk => trivial), by repeat (first | (with_reducible first | exact HB.out | apply below_alloc | apply pw_below_drewN | apply below_drew1 | refine below_set ?_ GE101.out) | exact HB.out)⟩
    rw [if_neg c16] at H
    have c16b0 : (a1.toList == ([47] : List UInt8)) = false := beq_eq_false_iff_ne.mpr c16
    have c16b1 : (a1.toList != ([47] : List UInt8)) = true := bne_iff_ne.mpr c16
    revert H
    refine obs_ fun t114 A21 H => ?_
    revert H
    refine obs_ fun t115 A22 H => ?_
    by_cases c23 : t115 < 0
    ·
     rw [if_pos c23] at H
     have c23b0 : decide (t115 < 0) = true := decide_eq_true c23
     clear c23
     replace H := Option.bind_eq_some_iff.mp H
     obtain ⟨⟨t116, t117, t118⟩, A240, H⟩ := H
     replace H : (some (t116, t117, t118)) = some (r1, r2, r3) := H
     have A24 := aa A240
     clear A240
     simp only [Option.some.injEq, Prod.mk.injEq] at H
     obtain ⟨rfl, rfl, rfl⟩ := H
     go_wp2_with (first | ((with_reducible refine gate_callee (f := 44) rfl ?_); refine goesL_ (some 30) rfl rfl Tryd.func44 (by kernel_rfl) rfl #[.string a1] rfl zjnmae ?_; (with_reducible refine (spec_l1Parent.calls kj5 a1 t114 _ A21.out).mono ?_); rintro e w' ⟨rfl, ⟨nd, rfl⟩⟩; refine ⟨_, rfl, ?_⟩; (try (rw [drewN_self wc]; generalize hq_ : World.drewN wc _ = wc; have n0_ : Aside0 (wc.heap[gb101]? = some (.cells #[.int .i64 0, .string (⟨#[]⟩ : ByteArray), .slice none 0 0] 27 (0, 0))) := ⟨by rw [← hq_]; exact (zkjhpm BK101.out)⟩; have n1_ : Aside0 (Below w.heap.size w wc) := ⟨by rw [← hq_]; exact zkmbdh⟩; clear BK101 HB hq_; have BK101 := n0_; have HB := n1_; clear n0_ n1_))) | ((with_reducible refine gate_callee (f := 43) rfl ?_); refine goesL_ (some 31) rfl rfl Tryd.func43 (by kernel_rfl) rfl #[.slice A0 l0.length c0, .string t114] rfl zjnmae ?_; (with_reducible refine (spec_l2At.calls kj5 _ _ l0 t114 t115 _ ?side1 ?side2 A22.out).mono ?_); (case side1 => exact zfmbgg); (case side2 => exact HC0.out); rintro e w' ⟨rfl, ⟨nd, rfl⟩⟩; refine ⟨_, rfl, ?_⟩; (try (rw [drewN_self wc]; generalize hq_ : World.drewN wc _ = wc; have n0_ : Aside0 (wc.heap[gb101]? = some (.cells #[.int .i64 0, .string (⟨#[]⟩ : ByteArray), .slice none 0 0] 27 (0, 0))) := ⟨by rw [← hq_]; exact (zkjhpm BK101.out)⟩; have n1_ : Aside0 (Below w.heap.size w wc) := ⟨by rw [← hq_]; exact zkmbdh⟩; clear BK101 HB hq_; have BK101 := n0_; have HB := n1_; clear n0_ n1_))) | ((with_reducible refine gate_callee (f := 24) rfl ?_); refine goesL_ (some 34) rfl rfl Tryd.func24 (by kernel_rfl) rfl #[.int .i64 4] rfl zjnmae ?_; (with_reducible refine (spec_l2Bad.calls 4 t116 t117 t118 _ A24.out).mono ?_); rintro e w25 ⟨v119, rfl, ho0, hb⟩; refine ⟨_, rfl, ?_⟩; have HO120 := aa (Kd.R_lower ho0 (below_size zkmbdh)); replace BK101 := aa (blk_below (g := gb101) (o := .cells #[.int .i64 0, .string (⟨#[]⟩ : ByteArray), .slice none 0 0] 27 (0, 0)) (zkjhpm BK101.out) hb); replace HB := aa (below_step zkmbdh hb); (try clear hb); (try clear hk); (try clear hi); (try clear ho0); have hcz26_0 : w25.cell? ⟨gb101, 0, none⟩ = some (.int .i64 0) := (blk_cell BK101.out 0).trans rfl; have hcz26_1 : w25.cell? ⟨gb101, 1, none⟩ = some (.string (⟨#[]⟩ : ByteArray)) := (blk_cell BK101.out 1).trans rfl; have hcz26_2 : w25.cell? ⟨gb101, 2, none⟩ = some (.slice none 0 0) := (blk_cell BK101.out 2).trans rfl; have hfz26_0 := blk_frozen BK101.out 0; have hfz26_1 := blk_frozen BK101.out 1; have hfz26_2 := blk_frozen BK101.out 2; obtain ⟨Ao27, co27, eo27⟩ := Kd.R_slice HO120.out; subst eo27))
     refine bodyPost_ret (results_cell_row rfl _ _ gb101 27 #[.int .i64 t116, .string t117, .slice Ao27 t118.length co27] (0, 0) _ rfl (by (with_reducible repeat (first | refine blk_drewN ?_ _ | refine blk_drew ?_ | refine blk_alloc ?_ _)); refine blk_put (cs := #[.int .i64 t116, .string t117, .slice none 0 0]) ?_ 2 _ rfl; (with_reducible repeat (first | refine blk_drewN ?_ _ | refine blk_drew ?_ | refine blk_alloc ?_ _)); refine blk_put (cs := #[.int .i64 t116, .string (⟨#[]⟩ : ByteArray), .slice none 0 0]) ?_ 1 _ rfl; (with_reducible repeat (first | refine blk_drewN ?_ _ | refine blk_drew ?_ | refine blk_alloc ?_ _)); refine blk_put (cs := #[.int .i64 0, .string (⟨#[]⟩ : ByteArray), .slice none 0 0]) ?_ 0 _ rfl; (with_reducible repeat (first | refine blk_drewN ?_ _ | refine blk_drew ?_ | refine blk_alloc ?_ _)); exact BK101.out) Tryd.underlying27 rfl (by kernel_rfl)) rfl ?_
     exact ⟨_, by first | rfl | (simp [errW_none, errW_some] <;> rfl) | (simp [*, errW_none, errW_some] <;> rfl), by (with_reducible repeat (first | apply Kd.R_alloc | apply Kd.R_drewN | apply Kd.R_drew)); exact Kd.R_mono (Kd.R_far (p := ⟨gb101, 2, none⟩) (Kd.R_far (p := ⟨gb101, 1, none⟩) (Kd.R_far (p := ⟨gb101, 0, none⟩) (Kd.R_types HO120.out BK101.out (by decide)) (fun _ hk => hk.2) (.int .i64 t116)) (fun _ hk => hk.2) (.string t117)) (fun _ hk => hk.2) (.slice Ao27 t118.length co27)) (fun _ hk => trivial), by repeat (first | (with_reducible first | exact HB.out | apply below_alloc | apply pw_below_drewN | apply below_drew1 | refine below_set ?_ GE101.out) | exact HB.out)⟩
    rw [if_neg c23] at H
    have c23b0 : decide (t115 < 0) = false := decide_eq_false c23
    clear c23
    by_cases c28 : 0 ≤ t115
    ·
     rw [if_pos c28] at H
     have c28b0 : decide (0 ≤ t115) = true := decide_eq_true c28
     clear c28
     by_cases c29 : t115 < (l0.length : Int)
     ·
      rw [if_pos c29] at H
      have c29b0 : decide (t115 < (l0.length : Int)) = true := decide_eq_true c29
      clear c29
      by_cases c30 : ((rd_T44 l0 t115).f3) = 0
      ·
       rw [if_pos c30] at H
       have c30b0 : (((rd_T44 l0 t115).f3) == 0) = true := beq_iff_eq.mpr c30
       have c30b1 : (((rd_T44 l0 t115).f3) != 0) = false := bne_eq_false_iff_eq.mpr c30
       clear c30
       revert H
       refine obs_ fun t127 A31 H => ?_
       have HC32 := aa H
       clear H
       go_upto_if 44 with (first | ((with_reducible refine gate_callee (f := 44) rfl ?_); refine goesL_ (some 30) rfl rfl Tryd.func44 (by kernel_rfl) rfl #[.string a1] rfl zjnmae ?_; (with_reducible refine (spec_l1Parent.calls kj5 a1 t114 _ A21.out).mono ?_); rintro e w' ⟨rfl, ⟨nd, rfl⟩⟩; refine ⟨_, rfl, ?_⟩) | ((with_reducible refine gate_callee (f := 43) rfl ?_); refine goesL_ (some 31) rfl rfl Tryd.func43 (by kernel_rfl) rfl #[.slice A0 l0.length c0, .string t114] rfl zjnmae ?_; (with_reducible refine (spec_l2At.calls kj5 _ _ l0 t114 t115 _ ?side1 ?side2 A22.out).mono ?_); (case side1 => exact zklojj); (case side2 => exact HC0.out); rintro e w' ⟨rfl, ⟨nd, rfl⟩⟩; refine ⟨_, rfl, ?_⟩; have p121 : 0 ≤ (t115 : Int) := of_decide_eq_true zgglam; have q121 : t115 < (l0.length : Int) := of_decide_eq_true zgglam; obtain ⟨ad121, e121, hx121_0, hx121_1, hx121_2, hx121_3, hx121_4⟩ := at_T44 HR0.out t115 p121 q121; cases e121; replace hx121_0 := pb HB.out hx121_0; replace hx121_1 := pb HB.out hx121_1; replace hx121_2 := pb HB.out hx121_2; replace hx121_3 := pb HB.out hx121_3; replace hx121_4 := pb HB.out hx121_4; replace p121 := eq_true p121; replace q121 := eq_true q121) | ((with_reducible refine gate_callee (f := 77) rfl ?_); refine goesL_ (some 43) rfl rfl Tryd.func77 (by kernel_rfl) rfl #[.slice (some ad121) l0.length c0] rfl zjnmae ?_; (with_reducible refine (spec_l2Copy.calls _ _ l0 t127 _ ?side1 ?side2 A31.out).mono ?_); (case side1 => exact zklojj); (case side2 => exact HC0.out); rintro e w33 ⟨v128, rfl, ho0, hb⟩; refine ⟨_, rfl, ?_⟩; have HO129 := aa (Kd.R_lower ho0 (below_size zkmbdh)); replace BK101 := aa (blk_below (g := gb101) (o := .cells #[.int .i64 0, .string (⟨#[]⟩ : ByteArray), .slice none 0 0] 27 (0, 0)) (zkjhpm BK101.out) hb); replace HB := aa (below_step zkmbdh hb); (try clear hb); (try clear hk); (try clear hi); (try clear ho0)))
       (try simp only [Act.put, List.setIfInBounds_toArray, List.set_cons_zero, List.set_cons_succ])
       go_cut [1] (fun v1 wc => ∃ (kq : Nat) (x1_31 : ByteArray) (x12_31 : List (S44)) (x102000_31 : Int) (x102001_31 : ByteArray), v1 = .string x1_31 ∧ Aside0 (spec_l2Create.j1 kq l0 x1_31 a2 a3 x12_31 = some (r1, r2, r3)) ∧ Aside0 (kq ≤ kj5) ∧ Aside0 (Kd.R k44 44 wc w.heap.size (fun _ => True) v128 x12_31) ∧ Aside0 (wc.heap[gb101]? = some (.cells #[.int .i64 x102000_31, .string x102001_31, (.slice none 0 0)] 27 (0, 0))) ∧ Aside0 (Below w.heap.size w wc))
       case first =>
        have H := HC32.out
        clear HC32
        by_cases c34 : a4 = true
        ·
         subst c34
         replace H : (if ((rd_T44 l0 t115).f4) ≥ 100 then ((spec_l2Bad.f 3).bind fun bt131 => (some (bt131.1, bt131.2.1, bt131.2.2))) else ((spec_l1Last.f kj5 a1).bind fun t136 => (if 0 ≤ (wrap64 (t136 + 1)) then (if (wrap64 (t136 + 1)) ≤ (a1.size : Int) then ((spec_l1Seq.f kj5 (a1.extract ((wrap64 (t136 + 1)) : Int).toNat a1.size) ((rd_T44 l0 t115).f4)).bind fun t137 => ((spec_l1Name.f kj5 t137).bind fun t138 => (if t138 = true then ((spec_l1Parent.f kj5 a1).bind fun t144 => ((spec_l1Seq.f kj5 (a1.extract ((wrap64 (t136 + 1)) : Int).toNat a1.size) ((rd_T44 l0 t115).f4)).bind fun t145 => ((spec_l1Join.f t144 t145).bind fun t146 => ((spec_l1Fault.f kj5 t146).bind fun t147 => (if t147 = 0 then (if t115 < (t127.length : Int) then (spec_l2Create.j1 kj5 l0 t146 a2 a3 (t127.set (t115 : Int).toNat (⟨(rd_T44 t127 t115).f0, (rd_T44 t127 t115).f1, (rd_T44 t127 t115).f2, (rd_T44 t127 t115).f3, wrap64 (((rd_T44 l0 t115).f4) + 1)⟩ : S44))) else (none)) else ((spec_l2Bad.f t147).bind fun bt149 => (some (bt149.1, bt149.2.1, bt149.2.2)))))))) else ((spec_l2Bad.f 5).bind fun bt139 => (some (bt139.1, bt139.2.1, bt139.2.2)))))) else (none)) else (none)))) = some (r1, r2, r3) := by rw [if_pos rfl] at H; exact H
         by_cases c35 : ((rd_T44 l0 t115).f4) ≥ 100
         ·
          rw [if_pos c35] at H
          have c35b0 : decide (100 ≤ ((rd_T44 l0 t115).f4)) = true := decide_eq_true c35
          clear c35
          (first | rw [c35b0] | (simp only [i64_w, i32_w]; rw [c35b0]) | (simp only [c35b2, Bool.not_false, Bool.not_true]) | skip)
          replace H := Option.bind_eq_some_iff.mp H
          obtain ⟨⟨t131, t132, t133⟩, A360, H⟩ := H
          replace H : (some (t131, t132, t133)) = some (r1, r2, r3) := H
          have A36 := aa A360
          clear A360
          simp only [Option.some.injEq, Prod.mk.injEq] at H
          obtain ⟨rfl, rfl, rfl⟩ := H
          have p130 : 0 ≤ (t115 : Int) := of_decide_eq_true zgglam
          have q130 : t115 < (l0.length : Int) := of_decide_eq_true zgglam
          obtain ⟨ad130, e130, hx130_0, hx130_1, hx130_2, hx130_3, hx130_4⟩ := at_T44 HR0.out t115 p130 q130
          obtain rfl : ad121 = ad130 := (by injection e130)
          replace hx130_0 := pb HB.out hx130_0
          replace hx130_1 := pb HB.out hx130_1
          replace hx130_2 := pb HB.out hx130_2
          replace hx130_3 := pb HB.out hx130_3
          replace hx130_4 := pb HB.out hx130_4
          replace p130 := eq_true p130
          replace q130 := eq_true q130
          go_wp2_with (first | ((with_reducible refine gate_callee (f := 24) rfl ?_); refine goesL_ (some 52) rfl rfl Tryd.func24 (by kernel_rfl) rfl #[.int .i64 3] rfl zjnmae ?_; (with_reducible refine (spec_l2Bad.calls 3 t131 t132 t133 _ A36.out).mono ?_); rintro e w37 ⟨v134, rfl, ho0, hb⟩; refine ⟨_, rfl, ?_⟩; have n0_ := aa (Kd.R_elder' (zcaken HO129.out) (Kd.R_base ho0) hb); have n1_ := aa (Kd.R_lower (Kd.R_new' ho0 (Kd.R_lt (zcaken HO129.out))) (below_size zkmbdh)); have n2_ := aa (blk_below (g := gb101) (o := .cells #[.int .i64 0, .string (⟨#[]⟩ : ByteArray), .slice none 0 0] 27 (0, 0)) (zkjhpm BK101.out) hb); have n3_ := aa (below_step zkmbdh hb); clear HO129; clear BK101; clear HB; have HO129 := n0_; have HO135 := n1_; have BK101 := n2_; have HB := n3_; clear n0_ n1_ n2_ n3_; (try clear hb); (try clear hk); (try clear hi); (try clear ho0); have hcz38_0 : w37.cell? ⟨gb101, 0, none⟩ = some (.int .i64 0) := (blk_cell BK101.out 0).trans rfl; have hcz38_1 : w37.cell? ⟨gb101, 1, none⟩ = some (.string (⟨#[]⟩ : ByteArray)) := (blk_cell BK101.out 1).trans rfl; have hcz38_2 : w37.cell? ⟨gb101, 2, none⟩ = some (.slice none 0 0) := (blk_cell BK101.out 2).trans rfl; have hfz38_0 := blk_frozen BK101.out 0; have hfz38_1 := blk_frozen BK101.out 1; have hfz38_2 := blk_frozen BK101.out 2; obtain ⟨Ao39, co39, eo39⟩ := Kd.R_slice HO135.out; subst eo39))
          refine bodyPost_ret (results_cell_row rfl _ _ gb101 27 #[.int .i64 t131, .string t132, .slice Ao39 t133.length co39] (0, 0) _ rfl (by (with_reducible repeat (first | refine blk_drewN ?_ _ | refine blk_drew ?_ | refine blk_alloc ?_ _)); refine blk_put (cs := #[.int .i64 t131, .string t132, .slice none 0 0]) ?_ 2 _ rfl; (with_reducible repeat (first | refine blk_drewN ?_ _ | refine blk_drew ?_ | refine blk_alloc ?_ _)); refine blk_put (cs := #[.int .i64 t131, .string (⟨#[]⟩ : ByteArray), .slice none 0 0]) ?_ 1 _ rfl; (with_reducible repeat (first | refine blk_drewN ?_ _ | refine blk_drew ?_ | refine blk_alloc ?_ _)); refine blk_put (cs := #[.int .i64 0, .string (⟨#[]⟩ : ByteArray), .slice none 0 0]) ?_ 0 _ rfl; (with_reducible repeat (first | refine blk_drewN ?_ _ | refine blk_drew ?_ | refine blk_alloc ?_ _)); exact BK101.out) Tryd.underlying27 rfl (by kernel_rfl)) rfl ?_
          exact ⟨_, by first | rfl | (simp [errW_none, errW_some] <;> rfl) | (simp [*, errW_none, errW_some] <;> rfl), by (with_reducible repeat (first | apply Kd.R_alloc | apply Kd.R_drewN | apply Kd.R_drew)); exact Kd.R_mono (Kd.R_far (p := ⟨gb101, 2, none⟩) (Kd.R_far (p := ⟨gb101, 1, none⟩) (Kd.R_far (p := ⟨gb101, 0, none⟩) (Kd.R_types HO135.out BK101.out (by decide)) (fun _ hk => hk.2) (.int .i64 t131)) (fun _ hk => hk.2) (.string t132)) (fun _ hk => hk.2) (.slice Ao39 t133.length co39)) (fun _ hk => trivial), by repeat (first | (with_reducible first | exact HB.out | apply below_alloc | apply pw_below_drewN | apply below_drew1 | refine below_set ?_ GE101.out) | exact HB.out)⟩
         rw [if_neg c35] at H
         have c35b0 : decide (100 ≤ ((rd_T44 l0 t115).f4)) = false := decide_eq_false c35
         clear c35
         (first | rw [c35b0] | (simp only [i64_w, i32_w]; rw [c35b0]) | (simp only [c35b2, Bool.not_false, Bool.not_true]) | skip)
         revert H
         refine obs_ fun t136 A40 H => ?_
         obtain ⟨ji41, hji41⟩ : ∃ j_ : Int, (wrap64 (t136 + 1)) = j_ := ⟨_, rfl⟩
         replace H : (if 0 ≤ (ji41) then (if (ji41) ≤ (a1.size : Int) then ((spec_l1Seq.f kj5 (a1.extract ((ji41) : Int).toNat a1.size) ((rd_T44 l0 t115).f4)).bind fun t137 => ((spec_l1Name.f kj5 t137).bind fun t138 => (if t138 = true then ((spec_l1Parent.f kj5 a1).bind fun t144 => ((spec_l1Seq.f kj5 (a1.extract ((ji41) : Int).toNat a1.size) ((rd_T44 l0 t115).f4)).bind fun t145 => ((spec_l1Join.f t144 t145).bind fun t146 => ((spec_l1Fault.f kj5 t146).bind fun t147 => (if t147 = 0 then (if t115 < (t127.length : Int) then (spec_l2Create.j1 kj5 l0 t146 a2 a3 (t127.set (t115 : Int).toNat (⟨(rd_T44 t127 t115).f0, (rd_T44 t127 t115).f1, (rd_T44 t127 t115).f2, (rd_T44 t127 t115).f3, wrap64 (((rd_T44 l0 t115).f4) + 1)⟩ : S44))) else (none)) else ((spec_l2Bad.f t147).bind fun bt149 => (some (bt149.1, bt149.2.1, bt149.2.2)))))))) else ((spec_l2Bad.f 5).bind fun bt139 => (some (bt139.1, bt139.2.1, bt139.2.2)))))) else (none)) else (none)) = some (r1, r2, r3) := by first | (rw [hji41] at H; exact H) | (simp only [hji41] at H ⊢; exact H)
         (try rw [hji41] at A40)
         have hji41w : (IntKind.i64.wrap (t136 + 1)) = ji41 := (i64_w _).trans hji41
         by_cases c42 : 0 ≤ (ji41)
         ·
          rw [if_pos c42] at H
          have c42b0 := eq_true c42
          have c42b1 : decide (0 ≤ (ji41)) = true := decide_eq_true c42
          clear c42
          by_cases c43 : (ji41) ≤ (a1.size : Int)
          ·
           rw [if_pos c43] at H
           have c43b0 := eq_true c43
           have c43b1 : decide ((ji41) ≤ (a1.size : Int)) = true := decide_eq_true c43
           clear c43
           revert H
           refine obs_ fun t137 A44 H => ?_
           revert H
           refine obs_ fun t138 A45 H => ?_
           by_cases c46 : t138 = true
           ·
            subst c46
            replace H : ((spec_l1Parent.f kj5 a1).bind fun t144 => ((spec_l1Seq.f kj5 (a1.extract ((ji41) : Int).toNat a1.size) ((rd_T44 l0 t115).f4)).bind fun t145 => ((spec_l1Join.f t144 t145).bind fun t146 => ((spec_l1Fault.f kj5 t146).bind fun t147 => (if t147 = 0 then (if t115 < (t127.length : Int) then (spec_l2Create.j1 kj5 l0 t146 a2 a3 (t127.set (t115 : Int).toNat (⟨(rd_T44 t127 t115).f0, (rd_T44 t127 t115).f1, (rd_T44 t127 t115).f2, (rd_T44 t127 t115).f3, wrap64 (((rd_T44 l0 t115).f4) + 1)⟩ : S44))) else (none)) else ((spec_l2Bad.f t147).bind fun bt149 => (some (bt149.1, bt149.2.1, bt149.2.2)))))))) = some (r1, r2, r3) := by rw [if_pos rfl] at H; exact H
            revert H
            refine obs_ fun t144 A47 H => ?_
            revert H
            refine obs_ fun t145 A48 H => ?_
            revert H
            refine obs_ fun t146 A49 H => ?_
            revert H
            refine obs_ fun t147 A50 H => ?_
            by_cases c51 : t147 = 0
            ·
             rw [if_pos c51] at H
             have c51b0 : (t147 == 0) = true := beq_iff_eq.mpr c51
             have c51b1 : (t147 != 0) = false := bne_eq_false_iff_eq.mpr c51
             clear c51
             by_cases c52 : t115 < (t127.length : Int)
             ·
              rw [if_pos c52] at H
              have c52b0 : decide (t115 < (t127.length : Int)) = true := decide_eq_true c52
              clear c52
              obtain ⟨y148, hy148⟩ : ∃ y_ : List (S44), y_ = (t127.set (t115 : Int).toNat (⟨(rd_T44 t127 t115).f0, (rd_T44 t127 t115).f1, (rd_T44 t127 t115).f2, (rd_T44 t127 t115).f3, wrap64 (((rd_T44 l0 t115).f4) + 1)⟩ : S44)) := ⟨_, rfl⟩
              replace H : (spec_l2Create.j1 kj5 l0 t146 a2 a3 y148) = some (r1, r2, r3) := by first | (rw [hy148]; with_reducible exact H) | (have H2_ := (Option.bind_some _ _).symm.trans H; rw [hy148]; with_reducible exact H2_) | (have H2_ := (Option.bind_some _ _).symm.trans H; with_reducible exact H2_) | with_reducible exact H | (rw [hy148]; exact H) | exact H
              have Ny148 := aa hy148
              clear hy148
              have H' := aa H
              clear H
              have p130 : 0 ≤ (t115 : Int) := of_decide_eq_true zgglam
              have q130 : t115 < (l0.length : Int) := of_decide_eq_true zgglam
              obtain ⟨ad130, e130, hx130_0, hx130_1, hx130_2, hx130_3, hx130_4⟩ := at_T44 HR0.out t115 p130 q130
              obtain rfl : ad121 = ad130 := (by injection e130)
              replace hx130_0 := pb HB.out hx130_0
              replace hx130_1 := pb HB.out hx130_1
              replace hx130_2 := pb HB.out hx130_2
              replace hx130_3 := pb HB.out hx130_3
              replace hx130_4 := pb HB.out hx130_4
              replace p130 := eq_true p130
              replace q130 := eq_true q130
              go_wp2_with (first | ((with_reducible refine gate_callee (f := 61) rfl ?_); refine goesL_ (some 55) rfl rfl Tryd.func61 (by kernel_rfl) rfl #[.string a1] rfl zjnmae ?_; (with_reducible refine (spec_l1Last.calls kj5 a1 t136 _ A40.out).mono ?_); rintro e w' ⟨rfl, ⟨nd, rfl⟩⟩; refine ⟨_, rfl, ?_⟩; (try (rw [drewN_self w33]; generalize hq_ : World.drewN w33 _ = w33; have n0_ : Aside0 (Kd.R k44 44 w33 w.heap.size (fun _ => True) v128 t127) := ⟨by rw [← hq_]; exact (zcaken HO129.out)⟩; have n1_ : Aside0 (w33.heap[gb101]? = some (.cells #[.int .i64 0, .string (⟨#[]⟩ : ByteArray), .slice none 0 0] 27 (0, 0))) := ⟨by rw [← hq_]; exact (zkjhpm BK101.out)⟩; have n2_ : Aside0 (Below w.heap.size w w33) := ⟨by rw [← hq_]; exact zkmbdh⟩; clear HO129 BK101 HB hq_; have HO129 := n0_; have BK101 := n1_; have HB := n2_; clear n0_ n1_ n2_))) | ((with_reducible refine gate_callee (f := 78) rfl ?_); refine goesL_ (some 60) rfl rfl Tryd.func78 (by kernel_rfl) rfl #[.string (a1.extract ((ji41) : Int).toNat a1.size), .int .i64 ((rd_T44 l0 t115).f4)] rfl zfokej ?_; (with_reducible refine (spec_l1Seq.calls kj5 (a1.extract ((ji41) : Int).toNat a1.size) ((rd_T44 l0 t115).f4) t137 _ A44.out).mono ?_); rintro e w54 ⟨rfl, hb⟩; refine ⟨_, rfl, ?_⟩; replace HO129 := aa (Kd.R_below (zcaken HO129.out) hb); replace BK101 := aa (blk_below (g := gb101) (o := .cells #[.int .i64 0, .string (⟨#[]⟩ : ByteArray), .slice none 0 0] 27 (0, 0)) (zkjhpm BK101.out) hb); replace HB := aa (below_step zkmbdh hb); (try clear hb); (try clear hk); (try clear hi)) | ((with_reducible refine gate_callee (f := 75) rfl ?_); refine goesL_ (some 61) rfl rfl Tryd.func75 (by kernel_rfl) rfl #[.string t137] rfl zjnmae ?_; (with_reducible refine (spec_l1Name.calls kj5 t137 true _ A45.out).mono ?_); rintro e w' ⟨rfl, ⟨nd, rfl⟩⟩; refine ⟨_, rfl, ?_⟩; (try (rw [drewN_self w54]; generalize hq_ : World.drewN w54 _ = w54; have n0_ : Aside0 (Kd.R k44 44 w54 w.heap.size (fun _ => True) v128 t127) := ⟨by rw [← hq_]; exact (zcaken HO129.out)⟩; have n1_ : Aside0 (w54.heap[gb101]? = some (.cells #[.int .i64 0, .string (⟨#[]⟩ : ByteArray), .slice none 0 0] 27 (0, 0))) := ⟨by rw [← hq_]; exact (zkjhpm BK101.out)⟩; have n2_ : Aside0 (Below w.heap.size w w54) := ⟨by rw [← hq_]; exact zkmbdh⟩; clear HO129 BK101 HB hq_; have HO129 := n0_; have BK101 := n1_; have HB := n2_; clear n0_ n1_ n2_))) | ((with_reducible refine gate_callee (f := 44) rfl ?_); refine goesL_ (some 65) rfl rfl Tryd.func44 (by kernel_rfl) rfl #[.string a1] rfl zjnmae ?_; (with_reducible refine (spec_l1Parent.calls kj5 a1 t144 _ A47.out).mono ?_); rintro e w' ⟨rfl, ⟨nd, rfl⟩⟩; refine ⟨_, rfl, ?_⟩; (try (rw [drewN_self w54]; generalize hq_ : World.drewN w54 _ = w54; have n0_ : Aside0 (Kd.R k44 44 w54 w.heap.size (fun _ => True) v128 t127) := ⟨by rw [← hq_]; exact (zcaken HO129.out)⟩; have n1_ : Aside0 (w54.heap[gb101]? = some (.cells #[.int .i64 0, .string (⟨#[]⟩ : ByteArray), .slice none 0 0] 27 (0, 0))) := ⟨by rw [← hq_]; exact (zkjhpm BK101.out)⟩; have n2_ : Aside0 (Below w.heap.size w w54) := ⟨by rw [← hq_]; exact zkmbdh⟩; clear HO129 BK101 HB hq_; have HO129 := n0_; have BK101 := n1_; have HB := n2_; clear n0_ n1_ n2_))) | ((with_reducible refine gate_callee (f := 78) rfl ?_); refine goesL_ (some 68) rfl rfl Tryd.func78 (by kernel_rfl) rfl #[.string (a1.extract ((ji41) : Int).toNat a1.size), .int .i64 ((rd_T44 l0 t115).f4)] rfl zfokej ?_; (with_reducible refine (spec_l1Seq.calls kj5 (a1.extract ((ji41) : Int).toNat a1.size) ((rd_T44 l0 t115).f4) t145 _ A48.out).mono ?_); rintro e w55 ⟨rfl, hb⟩; refine ⟨_, rfl, ?_⟩; replace HO129 := aa (Kd.R_below (zcaken HO129.out) hb); replace BK101 := aa (blk_below (g := gb101) (o := .cells #[.int .i64 0, .string (⟨#[]⟩ : ByteArray), .slice none 0 0] 27 (0, 0)) (zkjhpm BK101.out) hb); replace HB := aa (below_step zkmbdh hb); (try clear hb); (try clear hk); (try clear hi)) | ((with_reducible refine gate_callee (f := 76) rfl ?_); refine goesL_ (some 69) rfl rfl Tryd.func76 (by kernel_rfl) rfl #[.string t144, .string t145] rfl zjnmae ?_; (with_reducible refine (spec_l1Join.calls t144 t145 t146 _ A49.out).mono ?_); rintro e w' ⟨rfl, ⟨nd, rfl⟩⟩; refine ⟨_, rfl, ?_⟩; (try (rw [drewN_self w55]; generalize hq_ : World.drewN w55 _ = w55; have n0_ : Aside0 (Kd.R k44 44 w55 w.heap.size (fun _ => True) v128 t127) := ⟨by rw [← hq_]; exact (zcaken HO129.out)⟩; have n1_ : Aside0 (w55.heap[gb101]? = some (.cells #[.int .i64 0, .string (⟨#[]⟩ : ByteArray), .slice none 0 0] 27 (0, 0))) := ⟨by rw [← hq_]; exact (zkjhpm BK101.out)⟩; have n2_ : Aside0 (Below w.heap.size w w55) := ⟨by rw [← hq_]; exact zkmbdh⟩; clear HO129 BK101 HB hq_; have HO129 := n0_; have BK101 := n1_; have HB := n2_; clear n0_ n1_ n2_))) | ((with_reducible refine gate_callee (f := 39) rfl ?_); refine goesL_ (some 71) rfl rfl Tryd.func39 (by kernel_rfl) rfl #[.string t146] rfl zjnmae ?_; (with_reducible refine (spec_l1Fault.calls kj5 t146 t147 _ A50.out).mono ?_); rintro e w56 ⟨rfl, hb⟩; refine ⟨_, rfl, ?_⟩; replace HO129 := aa (Kd.R_below (zcaken HO129.out) hb); replace BK101 := aa (blk_below (g := gb101) (o := .cells #[.int .i64 0, .string (⟨#[]⟩ : ByteArray), .slice none 0 0] 27 (0, 0)) (zkjhpm BK101.out) hb); replace HB := aa (below_step zkmbdh hb); (try clear hb); (try clear hk); (try clear hi); have p53 : 0 ≤ (t115 : Int) := of_decide_eq_true zgglam; have q53 : (t115 : Int) < ((t127.length : Int) : Int) := of_decide_eq_true zgglam; obtain ⟨go53, co53, eo53, gb53, gl53, cl53, HG53⟩ := Kd.R_form HO129.out (by omega); (first | cases eo53 | (injection eo53 with ea_ en_ ec_; (first | subst ea_ | (injection ea_ with ea_; subst ea_)); subst ec_; clear en_)); have GB53 := aa gb53; have GG53 := aa HG53; clear gb53 gl53 HG53; obtain ⟨ce53, hcl53, hM53, hcc53, hfr53⟩ := Kd.R_elem HO129.out z44 (t115 : Int) p53 q53; obtain rfl := k44_openM hM53; have hx53_0 : w56.cell? ⟨go53, (t115 : Int).toNat * 5, none⟩ = some (.string ((rd_T44 t127 t115).f0)) := hcc53 0 _ rfl; have hx53_1 : w56.cell? ⟨go53, (t115 : Int).toNat * 5 + 1, none⟩ = some (.int .i64 ((rd_T44 t127 t115).f1)) := hcc53 1 _ rfl; have hx53_2 : w56.cell? ⟨go53, (t115 : Int).toNat * 5 + 2, none⟩ = some (.int .i64 ((rd_T44 t127 t115).f2)) := hcc53 2 _ rfl; have hx53_3 : w56.cell? ⟨go53, (t115 : Int).toNat * 5 + 3, none⟩ = some (.int .i64 ((rd_T44 t127 t115).f3)) := hcc53 3 _ rfl; have hx53_4 : w56.cell? ⟨go53, (t115 : Int).toNat * 5 + 4, none⟩ = some (.int .i64 ((rd_T44 t127 t115).f4)) := hcc53 4 _ rfl; have hf53_0 : w56.frozen? ⟨go53, (t115 : Int).toNat * 5, none⟩ = false := hfr53 0; have hf53_1 : w56.frozen? ⟨go53, (t115 : Int).toNat * 5 + 1, none⟩ = false := hfr53 1; have hf53_2 : w56.frozen? ⟨go53, (t115 : Int).toNat * 5 + 2, none⟩ = false := hfr53 2; have hf53_3 : w56.frozen? ⟨go53, (t115 : Int).toNat * 5 + 3, none⟩ = false := hfr53 3; have hf53_4 : w56.frozen? ⟨go53, (t115 : Int).toNat * 5 + 4, none⟩ = false := hfr53 4; clear hcl53 hcc53 hfr53 hM53; replace p53 := eq_true p53; replace q53 := eq_true q53; have HX57 := aa (show Kd.R k44 44 w56 w.heap.size (fun _ => True) (.slice (some ⟨go53, 0, none⟩) t127.length co53) t127 from (zcaken HO129.out)); obtain ⟨ce57, hcl57, hM57, hcc57, hfr57⟩ := Kd.R_elem HX57.out z44 (t115 : Int) (of_decide_eq_true zgglam) (by have h_ : (t115 : Int) < ((t127.length : Int) : Int) := of_decide_eq_true zgglam; first | exact h_ | (have e_ := (Kd.R_reads' HO129.out).1; omega) | simpa using h_); obtain rfl := k44_openM hM57; have HP57 := Kd.R_seg HX57.out (t115 : Int) (of_decide_eq_true zgglam) (by have h_ : (t115 : Int) < ((t127.length : Int) : Int) := of_decide_eq_true zgglam; first | exact h_ | (have e_ := (Kd.R_reads' HO129.out).1; omega) | simpa using h_) (seg := [.int .i64 (wrap64 (((rd_T44 l0 t115).f4) + 1))]) (j := 4) hcl57 hcc57 (show 5 ≤ 5 from by decide) (x' := (⟨(rd_T44 t127 t115).f0, (rd_T44 t127 t115).f1, (rd_T44 t127 t115).f2, (rd_T44 t127 t115).f3, wrap64 (((rd_T44 l0 t115).f4) + 1)⟩ : S44)) (k44_mkM _ _ _ (⟨(rd_T44 t127 t115).f0, (rd_T44 t127 t115).f1, (rd_T44 t127 t115).f2, (rd_T44 t127 t115).f3, wrap64 (((rd_T44 l0 t115).f4) + 1)⟩ : S44) ) (fun _ hk => hk); have hx57_4 := hcc57 4 _ rfl; (try simp only [show (k44).sz = 5 from rfl, Nat.mul_one, Nat.add_zero] at hx57_4); have hf57_4 := hfr57 4; (try simp only [show (k44).sz = 5 from rfl, Nat.mul_one, Nat.add_zero] at hf57_4); clear hcl57 hcc57 hfr57 hM57) | ((with_reducible refine gate_store (t := 2) (p := 81) rfl ?_); refine store_event (t := 2) (p := 81) (v := ?vo_w58) (w1 := (w56.setCell ⟨go53, (t115 : Int).toNat * 5 + 4, none⟩ (.int .i64 (wrap64 (((rd_T44 l0 t115).f4) + 1))))) ?hg ?ho ?hn ?hr ?_; (case ho => rfl); (case hg => rfl); (case hn => rfl); (case hr => exact zhlgcp); intro w58 hw; have hg : w56.grownBy w58 (some go53) := (by rw [hw]; exact HP57.2); have hp_ : Kd.R k44 44 w58 w.heap.size (fun _ => True) (.slice (some ⟨go53, 0, none⟩) t127.length co53) y148 := (by rw [hw, Ny148.out]; exact HP57.1); clear HP57; have n0_ := aa (blk_grown (g := gb101) (o := .cells #[.int .i64 0, .string (⟨#[]⟩ : ByteArray), .slice none 0 0] 27 (0, 0)) (zkjhpm BK101.out) hg (Kd.R_ne HO129.out BK101.out (by decide))); have n1_ := aa (hp_); have n2_ := aa ((by rw [hw]; exact below_set (HB.out) GB53.out : Below w.heap.size w w58)); clear BK101; clear HO129; clear HB; have BK101 := n0_; have HO129 := n1_; have HB := n2_; clear n0_ n1_ n2_; clear hg hw hp_))
              go_meet
              case rel => exact ⟨_, (t146), (y148), (0), ((⟨#[]⟩ : ByteArray)), zagbkp, H', ⟨by have := HJ5.out; first | omega | exact Nat.le_refl _⟩, ⟨by (with_reducible repeat (first | apply Kd.R_alloc | apply Kd.R_drewN | apply Kd.R_drew)); exact HO129.out⟩, ⟨by (with_reducible repeat (first | refine blk_drewN ?_ _ | refine blk_drew ?_ | refine blk_alloc ?_ _)); exact BK101.out⟩, ⟨by repeat (first | (with_reducible first | exact HB.out | apply below_alloc | apply pw_below_drewN | apply below_drew1 | refine below_set ?_ GE101.out) | exact HB.out)⟩⟩
             rw [if_neg c52] at H
             exact absurd H (by simp)
            rw [if_neg c51] at H
            have c51b0 : (t147 == 0) = false := beq_eq_false_iff_ne.mpr c51
            have c51b1 : (t147 != 0) = true := bne_iff_ne.mpr c51
            replace H := Option.bind_eq_some_iff.mp H
            obtain ⟨⟨t149, t150, t151⟩, A590, H⟩ := H
            replace H : (some (t149, t150, t151)) = some (r1, r2, r3) := H
            have A59 := aa A590
            clear A590
            simp only [Option.some.injEq, Prod.mk.injEq] at H
            obtain ⟨rfl, rfl, rfl⟩ := H
            have p130 : 0 ≤ (t115 : Int) := of_decide_eq_true zgglam
            have q130 : t115 < (l0.length : Int) := of_decide_eq_true zgglam
            obtain ⟨ad130, e130, hx130_0, hx130_1, hx130_2, hx130_3, hx130_4⟩ := at_T44 HR0.out t115 p130 q130
            obtain rfl : ad121 = ad130 := (by injection e130)
            replace hx130_0 := pb HB.out hx130_0
            replace hx130_1 := pb HB.out hx130_1
            replace hx130_2 := pb HB.out hx130_2
            replace hx130_3 := pb HB.out hx130_3
            replace hx130_4 := pb HB.out hx130_4
            replace p130 := eq_true p130
            replace q130 := eq_true q130
            go_wp2_with (first | ((with_reducible refine gate_callee (f := 61) rfl ?_); refine goesL_ (some 55) rfl rfl Tryd.func61 (by kernel_rfl) rfl #[.string a1] rfl zjnmae ?_; (with_reducible refine (spec_l1Last.calls kj5 a1 t136 _ A40.out).mono ?_); rintro e w' ⟨rfl, ⟨nd, rfl⟩⟩; refine ⟨_, rfl, ?_⟩; (try (rw [drewN_self w33]; generalize hq_ : World.drewN w33 _ = w33; have n0_ : Aside0 (Kd.R k44 44 w33 w.heap.size (fun _ => True) v128 t127) := ⟨by rw [← hq_]; exact (zcaken HO129.out)⟩; have n1_ : Aside0 (w33.heap[gb101]? = some (.cells #[.int .i64 0, .string (⟨#[]⟩ : ByteArray), .slice none 0 0] 27 (0, 0))) := ⟨by rw [← hq_]; exact (zkjhpm BK101.out)⟩; have n2_ : Aside0 (Below w.heap.size w w33) := ⟨by rw [← hq_]; exact zkmbdh⟩; clear HO129 BK101 HB hq_; have HO129 := n0_; have BK101 := n1_; have HB := n2_; clear n0_ n1_ n2_))) | ((with_reducible refine gate_callee (f := 78) rfl ?_); refine goesL_ (some 60) rfl rfl Tryd.func78 (by kernel_rfl) rfl #[.string (a1.extract ((ji41) : Int).toNat a1.size), .int .i64 ((rd_T44 l0 t115).f4)] rfl zfokej ?_; (with_reducible refine (spec_l1Seq.calls kj5 (a1.extract ((ji41) : Int).toNat a1.size) ((rd_T44 l0 t115).f4) t137 _ A44.out).mono ?_); rintro e w60 ⟨rfl, hb⟩; refine ⟨_, rfl, ?_⟩; replace HO129 := aa (Kd.R_below (zcaken HO129.out) hb); replace BK101 := aa (blk_below (g := gb101) (o := .cells #[.int .i64 0, .string (⟨#[]⟩ : ByteArray), .slice none 0 0] 27 (0, 0)) (zkjhpm BK101.out) hb); replace HB := aa (below_step zkmbdh hb); (try clear hb); (try clear hk); (try clear hi)) | ((with_reducible refine gate_callee (f := 75) rfl ?_); refine goesL_ (some 61) rfl rfl Tryd.func75 (by kernel_rfl) rfl #[.string t137] rfl zjnmae ?_; (with_reducible refine (spec_l1Name.calls kj5 t137 true _ A45.out).mono ?_); rintro e w' ⟨rfl, ⟨nd, rfl⟩⟩; refine ⟨_, rfl, ?_⟩; (try (rw [drewN_self w60]; generalize hq_ : World.drewN w60 _ = w60; have n0_ : Aside0 (Kd.R k44 44 w60 w.heap.size (fun _ => True) v128 t127) := ⟨by rw [← hq_]; exact (zcaken HO129.out)⟩; have n1_ : Aside0 (w60.heap[gb101]? = some (.cells #[.int .i64 0, .string (⟨#[]⟩ : ByteArray), .slice none 0 0] 27 (0, 0))) := ⟨by rw [← hq_]; exact (zkjhpm BK101.out)⟩; have n2_ : Aside0 (Below w.heap.size w w60) := ⟨by rw [← hq_]; exact zkmbdh⟩; clear HO129 BK101 HB hq_; have HO129 := n0_; have BK101 := n1_; have HB := n2_; clear n0_ n1_ n2_))) | ((with_reducible refine gate_callee (f := 44) rfl ?_); refine goesL_ (some 65) rfl rfl Tryd.func44 (by kernel_rfl) rfl #[.string a1] rfl zjnmae ?_; (with_reducible refine (spec_l1Parent.calls kj5 a1 t144 _ A47.out).mono ?_); rintro e w' ⟨rfl, ⟨nd, rfl⟩⟩; refine ⟨_, rfl, ?_⟩; (try (rw [drewN_self w60]; generalize hq_ : World.drewN w60 _ = w60; have n0_ : Aside0 (Kd.R k44 44 w60 w.heap.size (fun _ => True) v128 t127) := ⟨by rw [← hq_]; exact (zcaken HO129.out)⟩; have n1_ : Aside0 (w60.heap[gb101]? = some (.cells #[.int .i64 0, .string (⟨#[]⟩ : ByteArray), .slice none 0 0] 27 (0, 0))) := ⟨by rw [← hq_]; exact (zkjhpm BK101.out)⟩; have n2_ : Aside0 (Below w.heap.size w w60) := ⟨by rw [← hq_]; exact zkmbdh⟩; clear HO129 BK101 HB hq_; have HO129 := n0_; have BK101 := n1_; have HB := n2_; clear n0_ n1_ n2_))) | ((with_reducible refine gate_callee (f := 78) rfl ?_); refine goesL_ (some 68) rfl rfl Tryd.func78 (by kernel_rfl) rfl #[.string (a1.extract ((ji41) : Int).toNat a1.size), .int .i64 ((rd_T44 l0 t115).f4)] rfl zfokej ?_; (with_reducible refine (spec_l1Seq.calls kj5 (a1.extract ((ji41) : Int).toNat a1.size) ((rd_T44 l0 t115).f4) t145 _ A48.out).mono ?_); rintro e w61 ⟨rfl, hb⟩; refine ⟨_, rfl, ?_⟩; replace HO129 := aa (Kd.R_below (zcaken HO129.out) hb); replace BK101 := aa (blk_below (g := gb101) (o := .cells #[.int .i64 0, .string (⟨#[]⟩ : ByteArray), .slice none 0 0] 27 (0, 0)) (zkjhpm BK101.out) hb); replace HB := aa (below_step zkmbdh hb); (try clear hb); (try clear hk); (try clear hi)) | ((with_reducible refine gate_callee (f := 76) rfl ?_); refine goesL_ (some 69) rfl rfl Tryd.func76 (by kernel_rfl) rfl #[.string t144, .string t145] rfl zjnmae ?_; (with_reducible refine (spec_l1Join.calls t144 t145 t146 _ A49.out).mono ?_); rintro e w' ⟨rfl, ⟨nd, rfl⟩⟩; refine ⟨_, rfl, ?_⟩; (try (rw [drewN_self w61]; generalize hq_ : World.drewN w61 _ = w61; have n0_ : Aside0 (Kd.R k44 44 w61 w.heap.size (fun _ => True) v128 t127) := ⟨by rw [← hq_]; exact (zcaken HO129.out)⟩; have n1_ : Aside0 (w61.heap[gb101]? = some (.cells #[.int .i64 0, .string (⟨#[]⟩ : ByteArray), .slice none 0 0] 27 (0, 0))) := ⟨by rw [← hq_]; exact (zkjhpm BK101.out)⟩; have n2_ : Aside0 (Below w.heap.size w w61) := ⟨by rw [← hq_]; exact zkmbdh⟩; clear HO129 BK101 HB hq_; have HO129 := n0_; have BK101 := n1_; have HB := n2_; clear n0_ n1_ n2_))) | ((with_reducible refine gate_callee (f := 39) rfl ?_); refine goesL_ (some 71) rfl rfl Tryd.func39 (by kernel_rfl) rfl #[.string t146] rfl zjnmae ?_; (with_reducible refine (spec_l1Fault.calls kj5 t146 t147 _ A50.out).mono ?_); rintro e w62 ⟨rfl, hb⟩; refine ⟨_, rfl, ?_⟩; replace HO129 := aa (Kd.R_below (zcaken HO129.out) hb); replace BK101 := aa (blk_below (g := gb101) (o := .cells #[.int .i64 0, .string (⟨#[]⟩ : ByteArray), .slice none 0 0] 27 (0, 0)) (zkjhpm BK101.out) hb); replace HB := aa (below_step zkmbdh hb); (try clear hb); (try clear hk); (try clear hi)) | ((with_reducible refine gate_callee (f := 24) rfl ?_); refine goesL_ (some 75) rfl rfl Tryd.func24 (by kernel_rfl) rfl #[.int .i64 t147] rfl zjnmae ?_; (with_reducible refine (spec_l2Bad.calls t147 t149 t150 t151 _ A59.out).mono ?_); rintro e w63 ⟨v152, rfl, ho0, hb⟩; refine ⟨_, rfl, ?_⟩; have n0_ := aa (Kd.R_elder' (zcaken HO129.out) (Kd.R_base ho0) hb); have n1_ := aa (Kd.R_lower (Kd.R_new' ho0 (Kd.R_lt (zcaken HO129.out))) (below_size zkmbdh)); have n2_ := aa (blk_below (g := gb101) (o := .cells #[.int .i64 0, .string (⟨#[]⟩ : ByteArray), .slice none 0 0] 27 (0, 0)) (zkjhpm BK101.out) hb); have n3_ := aa (below_step zkmbdh hb); clear HO129; clear BK101; clear HB; have HO129 := n0_; have HO153 := n1_; have BK101 := n2_; have HB := n3_; clear n0_ n1_ n2_ n3_; (try clear hb); (try clear hk); (try clear hi); (try clear ho0); have hcz64_0 : w63.cell? ⟨gb101, 0, none⟩ = some (.int .i64 0) := (blk_cell BK101.out 0).trans rfl; have hcz64_1 : w63.cell? ⟨gb101, 1, none⟩ = some (.string (⟨#[]⟩ : ByteArray)) := (blk_cell BK101.out 1).trans rfl; have hcz64_2 : w63.cell? ⟨gb101, 2, none⟩ = some (.slice none 0 0) := (blk_cell BK101.out 2).trans rfl; have hfz64_0 := blk_frozen BK101.out 0; have hfz64_1 := blk_frozen BK101.out 1; have hfz64_2 := blk_frozen BK101.out 2; obtain ⟨Ao65, co65, eo65⟩ := Kd.R_slice HO153.out; subst eo65))
            refine bodyPost_ret (results_cell_row rfl _ _ gb101 27 #[.int .i64 t149, .string t150, .slice Ao65 t151.length co65] (0, 0) _ rfl (by (with_reducible repeat (first | refine blk_drewN ?_ _ | refine blk_drew ?_ | refine blk_alloc ?_ _)); refine blk_put (cs := #[.int .i64 t149, .string t150, .slice none 0 0]) ?_ 2 _ rfl; (with_reducible repeat (first | refine blk_drewN ?_ _ | refine blk_drew ?_ | refine blk_alloc ?_ _)); refine blk_put (cs := #[.int .i64 t149, .string (⟨#[]⟩ : ByteArray), .slice none 0 0]) ?_ 1 _ rfl; (with_reducible repeat (first | refine blk_drewN ?_ _ | refine blk_drew ?_ | refine blk_alloc ?_ _)); refine blk_put (cs := #[.int .i64 0, .string (⟨#[]⟩ : ByteArray), .slice none 0 0]) ?_ 0 _ rfl; (with_reducible repeat (first | refine blk_drewN ?_ _ | refine blk_drew ?_ | refine blk_alloc ?_ _)); exact BK101.out) Tryd.underlying27 rfl (by kernel_rfl)) rfl ?_
            exact ⟨_, by first | rfl | (simp [errW_none, errW_some] <;> rfl) | (simp only [← hji41]; first | rfl | (simp [errW_none, errW_some] <;> rfl)) | (simp [*, errW_none, errW_some] <;> rfl), by (with_reducible repeat (first | apply Kd.R_alloc | apply Kd.R_drewN | apply Kd.R_drew)); exact Kd.R_mono (Kd.R_far (p := ⟨gb101, 2, none⟩) (Kd.R_far (p := ⟨gb101, 1, none⟩) (Kd.R_far (p := ⟨gb101, 0, none⟩) (Kd.R_types HO153.out BK101.out (by decide)) (fun _ hk => hk.2) (.int .i64 t149)) (fun _ hk => hk.2) (.string t150)) (fun _ hk => hk.2) (.slice Ao65 t151.length co65)) (fun _ hk => trivial), by repeat (first | (with_reducible first | exact HB.out | apply below_alloc | apply pw_below_drewN | apply below_drew1 | refine below_set ?_ GE101.out) | exact HB.out)⟩
           replace c46 := Bool.eq_false_iff.mpr c46
           subst c46
           replace H : ((spec_l2Bad.f 5).bind fun bt139 => (some (bt139.1, bt139.2.1, bt139.2.2))) = some (r1, r2, r3) := by rw [if_neg (show ¬ (false = true) by decide)] at H; exact H
           replace H := Option.bind_eq_some_iff.mp H
           obtain ⟨⟨t139, t140, t141⟩, A660, H⟩ := H
           replace H : (some (t139, t140, t141)) = some (r1, r2, r3) := H
           have A66 := aa A660
           clear A660
           simp only [Option.some.injEq, Prod.mk.injEq] at H
           obtain ⟨rfl, rfl, rfl⟩ := H
           have p130 : 0 ≤ (t115 : Int) := of_decide_eq_true zgglam
           have q130 : t115 < (l0.length : Int) := of_decide_eq_true zgglam
           obtain ⟨ad130, e130, hx130_0, hx130_1, hx130_2, hx130_3, hx130_4⟩ := at_T44 HR0.out t115 p130 q130
           obtain rfl : ad121 = ad130 := (by injection e130)
           replace hx130_0 := pb HB.out hx130_0
           replace hx130_1 := pb HB.out hx130_1
           replace hx130_2 := pb HB.out hx130_2
           replace hx130_3 := pb HB.out hx130_3
           replace hx130_4 := pb HB.out hx130_4
           replace p130 := eq_true p130
           replace q130 := eq_true q130
           go_wp2_with (first | ((with_reducible refine gate_callee (f := 61) rfl ?_); refine goesL_ (some 55) rfl rfl Tryd.func61 (by kernel_rfl) rfl #[.string a1] rfl zjnmae ?_; (with_reducible refine (spec_l1Last.calls kj5 a1 t136 _ A40.out).mono ?_); rintro e w' ⟨rfl, ⟨nd, rfl⟩⟩; refine ⟨_, rfl, ?_⟩; (try (rw [drewN_self w33]; generalize hq_ : World.drewN w33 _ = w33; have n0_ : Aside0 (Kd.R k44 44 w33 w.heap.size (fun _ => True) v128 t127) := ⟨by rw [← hq_]; exact (zcaken HO129.out)⟩; have n1_ : Aside0 (w33.heap[gb101]? = some (.cells #[.int .i64 0, .string (⟨#[]⟩ : ByteArray), .slice none 0 0] 27 (0, 0))) := ⟨by rw [← hq_]; exact (zkjhpm BK101.out)⟩; have n2_ : Aside0 (Below w.heap.size w w33) := ⟨by rw [← hq_]; exact zkmbdh⟩; clear HO129 BK101 HB hq_; have HO129 := n0_; have BK101 := n1_; have HB := n2_; clear n0_ n1_ n2_))) | ((with_reducible refine gate_callee (f := 78) rfl ?_); refine goesL_ (some 60) rfl rfl Tryd.func78 (by kernel_rfl) rfl #[.string (a1.extract ((ji41) : Int).toNat a1.size), .int .i64 ((rd_T44 l0 t115).f4)] rfl zfokej ?_; (with_reducible refine (spec_l1Seq.calls kj5 (a1.extract ((ji41) : Int).toNat a1.size) ((rd_T44 l0 t115).f4) t137 _ A44.out).mono ?_); rintro e w67 ⟨rfl, hb⟩; refine ⟨_, rfl, ?_⟩; replace HO129 := aa (Kd.R_below (zcaken HO129.out) hb); replace BK101 := aa (blk_below (g := gb101) (o := .cells #[.int .i64 0, .string (⟨#[]⟩ : ByteArray), .slice none 0 0] 27 (0, 0)) (zkjhpm BK101.out) hb); replace HB := aa (below_step zkmbdh hb); (try clear hb); (try clear hk); (try clear hi)) | ((with_reducible refine gate_callee (f := 75) rfl ?_); refine goesL_ (some 61) rfl rfl Tryd.func75 (by kernel_rfl) rfl #[.string t137] rfl zjnmae ?_; (with_reducible refine (spec_l1Name.calls kj5 t137 false _ A45.out).mono ?_); rintro e w' ⟨rfl, ⟨nd, rfl⟩⟩; refine ⟨_, rfl, ?_⟩; (try (rw [drewN_self w67]; generalize hq_ : World.drewN w67 _ = w67; have n0_ : Aside0 (Kd.R k44 44 w67 w.heap.size (fun _ => True) v128 t127) := ⟨by rw [← hq_]; exact (zcaken HO129.out)⟩; have n1_ : Aside0 (w67.heap[gb101]? = some (.cells #[.int .i64 0, .string (⟨#[]⟩ : ByteArray), .slice none 0 0] 27 (0, 0))) := ⟨by rw [← hq_]; exact (zkjhpm BK101.out)⟩; have n2_ : Aside0 (Below w.heap.size w w67) := ⟨by rw [← hq_]; exact zkmbdh⟩; clear HO129 BK101 HB hq_; have HO129 := n0_; have BK101 := n1_; have HB := n2_; clear n0_ n1_ n2_))) | ((with_reducible refine gate_callee (f := 24) rfl ?_); refine goesL_ (some 63) rfl rfl Tryd.func24 (by kernel_rfl) rfl #[.int .i64 5] rfl zjnmae ?_; (with_reducible refine (spec_l2Bad.calls 5 t139 t140 t141 _ A66.out).mono ?_); rintro e w68 ⟨v142, rfl, ho0, hb⟩; refine ⟨_, rfl, ?_⟩; have n0_ := aa (Kd.R_elder' (zcaken HO129.out) (Kd.R_base ho0) hb); have n1_ := aa (Kd.R_lower (Kd.R_new' ho0 (Kd.R_lt (zcaken HO129.out))) (below_size zkmbdh)); have n2_ := aa (blk_below (g := gb101) (o := .cells #[.int .i64 0, .string (⟨#[]⟩ : ByteArray), .slice none 0 0] 27 (0, 0)) (zkjhpm BK101.out) hb); have n3_ := aa (below_step zkmbdh hb); clear HO129; clear BK101; clear HB; have HO129 := n0_; have HO143 := n1_; have BK101 := n2_; have HB := n3_; clear n0_ n1_ n2_ n3_; (try clear hb); (try clear hk); (try clear hi); (try clear ho0); have hcz69_0 : w68.cell? ⟨gb101, 0, none⟩ = some (.int .i64 0) := (blk_cell BK101.out 0).trans rfl; have hcz69_1 : w68.cell? ⟨gb101, 1, none⟩ = some (.string (⟨#[]⟩ : ByteArray)) := (blk_cell BK101.out 1).trans rfl; have hcz69_2 : w68.cell? ⟨gb101, 2, none⟩ = some (.slice none 0 0) := (blk_cell BK101.out 2).trans rfl; have hfz69_0 := blk_frozen BK101.out 0; have hfz69_1 := blk_frozen BK101.out 1; have hfz69_2 := blk_frozen BK101.out 2; obtain ⟨Ao70, co70, eo70⟩ := Kd.R_slice HO143.out; subst eo70))
           refine bodyPost_ret (results_cell_row rfl _ _ gb101 27 #[.int .i64 t139, .string t140, .slice Ao70 t141.length co70] (0, 0) _ rfl (by (with_reducible repeat (first | refine blk_drewN ?_ _ | refine blk_drew ?_ | refine blk_alloc ?_ _)); refine blk_put (cs := #[.int .i64 t139, .string t140, .slice none 0 0]) ?_ 2 _ rfl; (with_reducible repeat (first | refine blk_drewN ?_ _ | refine blk_drew ?_ | refine blk_alloc ?_ _)); refine blk_put (cs := #[.int .i64 t139, .string (⟨#[]⟩ : ByteArray), .slice none 0 0]) ?_ 1 _ rfl; (with_reducible repeat (first | refine blk_drewN ?_ _ | refine blk_drew ?_ | refine blk_alloc ?_ _)); refine blk_put (cs := #[.int .i64 0, .string (⟨#[]⟩ : ByteArray), .slice none 0 0]) ?_ 0 _ rfl; (with_reducible repeat (first | refine blk_drewN ?_ _ | refine blk_drew ?_ | refine blk_alloc ?_ _)); exact BK101.out) Tryd.underlying27 rfl (by kernel_rfl)) rfl ?_
           exact ⟨_, by first | rfl | (simp [errW_none, errW_some] <;> rfl) | (simp only [← hji41]; first | rfl | (simp [errW_none, errW_some] <;> rfl)) | (simp [*, errW_none, errW_some] <;> rfl), by (with_reducible repeat (first | apply Kd.R_alloc | apply Kd.R_drewN | apply Kd.R_drew)); exact Kd.R_mono (Kd.R_far (p := ⟨gb101, 2, none⟩) (Kd.R_far (p := ⟨gb101, 1, none⟩) (Kd.R_far (p := ⟨gb101, 0, none⟩) (Kd.R_types HO143.out BK101.out (by decide)) (fun _ hk => hk.2) (.int .i64 t139)) (fun _ hk => hk.2) (.string t140)) (fun _ hk => hk.2) (.slice Ao70 t141.length co70)) (fun _ hk => trivial), by repeat (first | (with_reducible first | exact HB.out | apply below_alloc | apply pw_below_drewN | apply below_drew1 | refine below_set ?_ GE101.out) | exact HB.out)⟩
          rw [if_neg c43] at H
          exact absurd H (by simp)
         rw [if_neg c42] at H
         exact absurd H (by simp)
        replace c34 := Bool.eq_false_iff.mpr c34
        subst c34
        replace H : (spec_l2Create.j1 kj5 l0 a1 a2 a3 t127) = some (r1, r2, r3) := by rw [if_neg (show ¬ (false = true) by decide)] at H; exact H
        have H' := aa H
        clear H
        go_wp2
        go_meet
        case rel => exact ⟨_, (a1), (t127), (0), ((⟨#[]⟩ : ByteArray)), zagbkp, H', ⟨by have := HJ5.out; first | omega | exact Nat.le_refl _⟩, ⟨by (with_reducible repeat (first | apply Kd.R_alloc | apply Kd.R_drewN | apply Kd.R_drew)); exact HO129.out⟩, ⟨by (with_reducible repeat (first | refine blk_drewN ?_ _ | refine blk_drew ?_ | refine blk_alloc ?_ _)); exact BK101.out⟩, ⟨by repeat (first | (with_reducible first | exact HB.out | apply below_alloc | apply pw_below_drewN | apply below_drew1 | refine below_set ?_ GE101.out) | exact HB.out)⟩⟩
       case rest =>
        clear HC32
        try clear c1
        try clear p1
        try clear q1
        try clear hx1
        try clear c2
        try clear p2
        try clear c3
        try clear c4
        try clear c5
        try clear p5
        try clear q5
        try clear hx5
        try clear hf5
        try clear c6
        try clear p6
        try clear c7
        try clear c9
        try clear c11
        try clear p12
        try clear q12
        try clear hx12
        try clear p13
        try clear q13
        try clear hx13
        try clear c16
        try clear c16b0
        try clear c16b1
        try clear c23
        try clear c23b0
        try clear c24
        try clear c28
        try clear c28b0
        try clear c29
        try clear c29b0
        try clear c30
        try clear c30b0
        try clear c30b1
        try clear c34
        try clear c35
        try clear c35b0
        try clear c35b2
        try clear c39
        try clear c40
        try clear c42
        try clear c42b0
        try clear c42b1
        try clear c43
        try clear c43b0
        try clear c43b1
        try clear c44
        try clear c46
        try clear c51
        try clear c51b0
        try clear c51b1
        try clear c52
        try clear c52b0
        try clear c53
        try clear p53
        try clear q53
        try clear hx53
        try clear hf53
        try clear c57
        try clear hx57
        try clear hf57
        try clear c61
        try clear p64
        try clear c66
        try clear hcz14_0
        try clear hcz14_1
        try clear hcz14_2
        try clear hcz19_0
        try clear hcz19_1
        try clear hcz19_2
        try clear hcz26_0
        try clear hcz26_1
        try clear hcz26_2
        try clear hcz38_0
        try clear hcz38_1
        try clear hcz38_2
        try clear hcz64_0
        try clear hcz64_1
        try clear hcz64_2
        try clear hcz69_0
        try clear hcz69_1
        try clear hcz69_2
        try clear hfz14_0
        try clear hfz14_1
        try clear hfz14_2
        try clear hfz19_0
        try clear hfz19_1
        try clear hfz19_2
        try clear hfz26_0
        try clear hfz26_1
        try clear hfz26_2
        try clear hfz38_0
        try clear hfz38_1
        try clear hfz38_2
        try clear hfz64_0
        try clear hfz64_1
        try clear hfz64_2
        try clear hfz69_0
        try clear hfz69_1
        try clear hfz69_2
        try clear hx121_0
        try clear hx121_1
        try clear hx121_2
        try clear hx121_3
        try clear hx121_4
        try clear hx130_0
        try clear hx130_1
        try clear hx130_2
        try clear hx130_3
        try clear hx130_4
        try clear hx53_0
        try clear hx53_1
        try clear hx53_2
        try clear hx53_3
        try clear hx53_4
        try clear hx57_4
        try clear p121
        try clear p130
        try clear p2
        try clear p53
        try clear q121
        try clear q130
        try clear q53
        obtain ⟨kq, x1_31, x12_31, x102000_31, x102001_31, rfl, HA, HJ31, HO_12, BK101, HB⟩ := hcut
        cases kq with
        | zero => exact absurd HA.out (by simp [spec_l2Create.j1])
        | succ kj31 =>
         have H := HA.out
         clear HA
         simp only [spec_l2Create.j1] at H
         revert H
         refine obs_ fun t154 A71 H => ?_
         by_cases c72 : t154 ≥ 0
         ·
          rw [if_pos c72] at H
          have c72b0 : decide (0 ≤ t154) = true := decide_eq_true c72
          clear c72
          replace H := Option.bind_eq_some_iff.mp H
          obtain ⟨⟨t155, t156, t157⟩, A730, H⟩ := H
          replace H : (some (t155, t156, t157)) = some (r1, r2, r3) := H
          have A73 := aa A730
          clear A730
          simp only [Option.some.injEq, Prod.mk.injEq] at H
          obtain ⟨rfl, rfl, rfl⟩ := H
          go_wp2_with (first | ((with_reducible refine gate_callee (f := 43) rfl ?_); refine goesL_ (some 84) rfl rfl Tryd.func43 (by kernel_rfl) rfl #[.slice (some ad121) l0.length c0, .string x1_31] rfl zjnmae ?_; (with_reducible refine (spec_l2At.calls kj31 _ _ l0 x1_31 t154 _ ?side1 ?side2 A71.out).mono ?_); (case side1 => exact zfmbgg); (case side2 => exact HC0.out); rintro e w' ⟨rfl, ⟨nd, rfl⟩⟩; refine ⟨_, rfl, ?_⟩; (try (rw [drewN_self wc]; generalize hq_ : World.drewN wc _ = wc; have n0_ : Aside0 (Kd.R k44 44 wc w.heap.size (fun _ => True) v128 x12_31) := ⟨by rw [← hq_]; exact (zcaken HO_12.out)⟩; have n1_ : Aside0 (wc.heap[gb101]? = some (.cells #[.int .i64 x102000_31, .string x102001_31, .slice none 0 0] 27 (0, 0))) := ⟨by rw [← hq_]; exact (zkjhpm BK101.out)⟩; have n2_ : Aside0 (Below w.heap.size w wc) := ⟨by rw [← hq_]; exact zkmbdh⟩; clear HO_12 BK101 HB hq_; have HO_12 := n0_; have BK101 := n1_; have HB := n2_; clear n0_ n1_ n2_))) | ((with_reducible refine gate_callee (f := 24) rfl ?_); refine goesL_ (some 86) rfl rfl Tryd.func24 (by kernel_rfl) rfl #[.int .i64 6] rfl zjnmae ?_; (with_reducible refine (spec_l2Bad.calls 6 t155 t156 t157 _ A73.out).mono ?_); rintro e w74 ⟨v158, rfl, ho0, hb⟩; refine ⟨_, rfl, ?_⟩; have n0_ := aa (Kd.R_elder' (zcaken HO_12.out) (Kd.R_base ho0) hb); have n1_ := aa (Kd.R_lower (Kd.R_new' ho0 (Kd.R_lt (zcaken HO_12.out))) (below_size zkmbdh)); have n2_ := aa (blk_below (g := gb101) (o := .cells #[.int .i64 x102000_31, .string x102001_31, .slice none 0 0] 27 (0, 0)) (zkjhpm BK101.out) hb); have n3_ := aa (below_step zkmbdh hb); clear HO_12; clear BK101; clear HB; have HO_12 := n0_; have HO159 := n1_; have BK101 := n2_; have HB := n3_; clear n0_ n1_ n2_ n3_; (try clear hb); (try clear hk); (try clear hi); (try clear ho0); have hcz75_0 : w74.cell? ⟨gb101, 0, none⟩ = some (.int .i64 x102000_31) := (blk_cell BK101.out 0).trans rfl; have hcz75_1 : w74.cell? ⟨gb101, 1, none⟩ = some (.string x102001_31) := (blk_cell BK101.out 1).trans rfl; have hcz75_2 : w74.cell? ⟨gb101, 2, none⟩ = some (.slice none 0 0) := (blk_cell BK101.out 2).trans rfl; have hfz75_0 := blk_frozen BK101.out 0; have hfz75_1 := blk_frozen BK101.out 1; have hfz75_2 := blk_frozen BK101.out 2; obtain ⟨Ao76, co76, eo76⟩ := Kd.R_slice HO159.out; subst eo76))
          refine bodyPost_ret (results_cell_row rfl _ _ gb101 27 #[.int .i64 t155, .string t156, .slice Ao76 t157.length co76] (0, 0) _ rfl (by (with_reducible repeat (first | refine blk_drewN ?_ _ | refine blk_drew ?_ | refine blk_alloc ?_ _)); refine blk_put (cs := #[.int .i64 t155, .string t156, .slice none 0 0]) ?_ 2 _ rfl; (with_reducible repeat (first | refine blk_drewN ?_ _ | refine blk_drew ?_ | refine blk_alloc ?_ _)); refine blk_put (cs := #[.int .i64 t155, .string x102001_31, .slice none 0 0]) ?_ 1 _ rfl; (with_reducible repeat (first | refine blk_drewN ?_ _ | refine blk_drew ?_ | refine blk_alloc ?_ _)); refine blk_put (cs := #[.int .i64 x102000_31, .string x102001_31, .slice none 0 0]) ?_ 0 _ rfl; (with_reducible repeat (first | refine blk_drewN ?_ _ | refine blk_drew ?_ | refine blk_alloc ?_ _)); exact BK101.out) Tryd.underlying27 rfl (by kernel_rfl)) rfl ?_
          exact ⟨_, by first | rfl | (simp [errW_none, errW_some] <;> rfl) | (simp [*, errW_none, errW_some] <;> rfl), by (with_reducible repeat (first | apply Kd.R_alloc | apply Kd.R_drewN | apply Kd.R_drew)); exact Kd.R_mono (Kd.R_far (p := ⟨gb101, 2, none⟩) (Kd.R_far (p := ⟨gb101, 1, none⟩) (Kd.R_far (p := ⟨gb101, 0, none⟩) (Kd.R_types HO159.out BK101.out (by decide)) (fun _ hk => hk.2) (.int .i64 t155)) (fun _ hk => hk.2) (.string t156)) (fun _ hk => hk.2) (.slice Ao76 t157.length co76)) (fun _ hk => trivial), by repeat (first | (with_reducible first | exact HB.out | apply below_alloc | apply pw_below_drewN | apply below_drew1 | refine below_set ?_ GE101.out) | exact HB.out)⟩
         ·
          rw [if_neg c72] at H
          have c72b0 : decide (0 ≤ t154) = false := decide_eq_false c72
          clear c72
          by_cases c77 : (l0.length : Int) ≥ 20
          ·
           rw [if_pos c77] at H
           have c77b0 : decide (20 ≤ (l0.length : Int)) = true := decide_eq_true c77
           have c77b1 : decide (20 ≤ l0.length) = true := decide_eq_true (by omega)
           clear c77
           replace H := Option.bind_eq_some_iff.mp H
           obtain ⟨⟨t160, t161, t162⟩, A780, H⟩ := H
           replace H : (some (t160, t161, t162)) = some (r1, r2, r3) := H
           have A78 := aa A780
           clear A780
           simp only [Option.some.injEq, Prod.mk.injEq] at H
           obtain ⟨rfl, rfl, rfl⟩ := H
           go_wp2_with (first | ((with_reducible refine gate_callee (f := 43) rfl ?_); refine goesL_ (some 84) rfl rfl Tryd.func43 (by kernel_rfl) rfl #[.slice (some ad121) l0.length c0, .string x1_31] rfl zjnmae ?_; (with_reducible refine (spec_l2At.calls kj31 _ _ l0 x1_31 t154 _ ?side1 ?side2 A71.out).mono ?_); (case side1 => exact zfmbgg); (case side2 => exact HC0.out); rintro e w' ⟨rfl, ⟨nd, rfl⟩⟩; refine ⟨_, rfl, ?_⟩; (try (rw [drewN_self wc]; generalize hq_ : World.drewN wc _ = wc; have n0_ : Aside0 (Kd.R k44 44 wc w.heap.size (fun _ => True) v128 x12_31) := ⟨by rw [← hq_]; exact (zcaken HO_12.out)⟩; have n1_ : Aside0 (wc.heap[gb101]? = some (.cells #[.int .i64 x102000_31, .string x102001_31, .slice none 0 0] 27 (0, 0))) := ⟨by rw [← hq_]; exact (zkjhpm BK101.out)⟩; have n2_ : Aside0 (Below w.heap.size w wc) := ⟨by rw [← hq_]; exact zkmbdh⟩; clear HO_12 BK101 HB hq_; have HO_12 := n0_; have BK101 := n1_; have HB := n2_; clear n0_ n1_ n2_))) | ((with_reducible refine gate_callee (f := 24) rfl ?_); refine goesL_ (some 90) rfl rfl Tryd.func24 (by kernel_rfl) rfl #[.int .i64 2] rfl zjnmae ?_; (with_reducible refine (spec_l2Bad.calls 2 t160 t161 t162 _ A78.out).mono ?_); rintro e w79 ⟨v163, rfl, ho0, hb⟩; refine ⟨_, rfl, ?_⟩; have n0_ := aa (Kd.R_elder' (zcaken HO_12.out) (Kd.R_base ho0) hb); have n1_ := aa (Kd.R_lower (Kd.R_new' ho0 (Kd.R_lt (zcaken HO_12.out))) (below_size zkmbdh)); have n2_ := aa (blk_below (g := gb101) (o := .cells #[.int .i64 x102000_31, .string x102001_31, .slice none 0 0] 27 (0, 0)) (zkjhpm BK101.out) hb); have n3_ := aa (below_step zkmbdh hb); clear HO_12; clear BK101; clear HB; have HO_12 := n0_; have HO164 := n1_; have BK101 := n2_; have HB := n3_; clear n0_ n1_ n2_ n3_; (try clear hb); (try clear hk); (try clear hi); (try clear ho0); have hcz80_0 : w79.cell? ⟨gb101, 0, none⟩ = some (.int .i64 x102000_31) := (blk_cell BK101.out 0).trans rfl; have hcz80_1 : w79.cell? ⟨gb101, 1, none⟩ = some (.string x102001_31) := (blk_cell BK101.out 1).trans rfl; have hcz80_2 : w79.cell? ⟨gb101, 2, none⟩ = some (.slice none 0 0) := (blk_cell BK101.out 2).trans rfl; have hfz80_0 := blk_frozen BK101.out 0; have hfz80_1 := blk_frozen BK101.out 1; have hfz80_2 := blk_frozen BK101.out 2; obtain ⟨Ao81, co81, eo81⟩ := Kd.R_slice HO164.out; subst eo81))
           refine bodyPost_ret (results_cell_row rfl _ _ gb101 27 #[.int .i64 t160, .string t161, .slice Ao81 t162.length co81] (0, 0) _ rfl (by (with_reducible repeat (first | refine blk_drewN ?_ _ | refine blk_drew ?_ | refine blk_alloc ?_ _)); refine blk_put (cs := #[.int .i64 t160, .string t161, .slice none 0 0]) ?_ 2 _ rfl; (with_reducible repeat (first | refine blk_drewN ?_ _ | refine blk_drew ?_ | refine blk_alloc ?_ _)); refine blk_put (cs := #[.int .i64 t160, .string x102001_31, .slice none 0 0]) ?_ 1 _ rfl; (with_reducible repeat (first | refine blk_drewN ?_ _ | refine blk_drew ?_ | refine blk_alloc ?_ _)); refine blk_put (cs := #[.int .i64 x102000_31, .string x102001_31, .slice none 0 0]) ?_ 0 _ rfl; (with_reducible repeat (first | refine blk_drewN ?_ _ | refine blk_drew ?_ | refine blk_alloc ?_ _)); exact BK101.out) Tryd.underlying27 rfl (by kernel_rfl)) rfl ?_
           exact ⟨_, by first | rfl | (simp [errW_none, errW_some] <;> rfl) | (simp [*, errW_none, errW_some] <;> rfl), by (with_reducible repeat (first | apply Kd.R_alloc | apply Kd.R_drewN | apply Kd.R_drew)); exact Kd.R_mono (Kd.R_far (p := ⟨gb101, 2, none⟩) (Kd.R_far (p := ⟨gb101, 1, none⟩) (Kd.R_far (p := ⟨gb101, 0, none⟩) (Kd.R_types HO164.out BK101.out (by decide)) (fun _ hk => hk.2) (.int .i64 t160)) (fun _ hk => hk.2) (.string t161)) (fun _ hk => hk.2) (.slice Ao81 t162.length co81)) (fun _ hk => trivial), by repeat (first | (with_reducible first | exact HB.out | apply below_alloc | apply pw_below_drewN | apply below_drew1 | refine below_set ?_ GE101.out) | exact HB.out)⟩
          rw [if_neg c77] at H
          have c77b0 : decide (20 ≤ (l0.length : Int)) = false := decide_eq_false c77
          have c77b1 : decide (20 ≤ l0.length) = false := decide_eq_false (by omega)
          clear c77
          revert H
          refine obs_ fun t165 A82 H => ?_
          simp only [Option.some.injEq, Prod.mk.injEq] at H
          obtain ⟨rfl, rfl, rfl⟩ := H
          go_wp2_with (first | ((with_reducible refine gate_callee (f := 43) rfl ?_); refine goesL_ (some 84) rfl rfl Tryd.func43 (by kernel_rfl) rfl #[.slice (some ad121) l0.length c0, .string x1_31] rfl zjnmae ?_; (with_reducible refine (spec_l2At.calls kj31 _ _ l0 x1_31 t154 _ ?side1 ?side2 A71.out).mono ?_); (case side1 => exact zfmbgg); (case side2 => exact HC0.out); rintro e w' ⟨rfl, ⟨nd, rfl⟩⟩; refine ⟨_, rfl, ?_⟩; (try (rw [drewN_self wc]; generalize hq_ : World.drewN wc _ = wc; have n0_ : Aside0 (Kd.R k44 44 wc w.heap.size (fun _ => True) v128 x12_31) := ⟨by rw [← hq_]; exact (zcaken HO_12.out)⟩; have n1_ : Aside0 (wc.heap[gb101]? = some (.cells #[.int .i64 x102000_31, .string x102001_31, .slice none 0 0] 27 (0, 0))) := ⟨by rw [← hq_]; exact (zkjhpm BK101.out)⟩; have n2_ : Aside0 (Below w.heap.size w wc) := ⟨by rw [← hq_]; exact zkmbdh⟩; clear HO_12 BK101 HB hq_; have HO_12 := n0_; have BK101 := n1_; have HB := n2_; clear n0_ n1_ n2_)); obtain ⟨Ao83, co83, eo83⟩ := Kd.R_slice HO_12.out; subst eo83) | ((with_reducible refine gate_callee (f := 79) rfl ?_); refine goesL_ (some 97) rfl rfl Tryd.func79 (by kernel_rfl) rfl #[.slice Ao83 x12_31.length co83, .agg #[.string x1_31, .int .i64 a2, .int .i64 0, .int .i64 a3, .int .i64 0]] rfl zjnmae ?_; (with_reducible refine (spec_l2Put.calls kj31 _ _ x12_31 x1_31 a2 0 a3 0 t165 _ ?side1 ?side2 A82.out).mono ?_); (case side1 => repeat (first | exact (Kd.R_reads' HO_12.out).2.2 | (with_reducible refine Kd.C_alloc ?_ _) | (with_reducible refine Kd.C_drewN ?_ _) | (with_reducible refine Kd.C_drew ?_))); (case side2 => exact (Kd.R_reads' HO_12.out).2.1); rintro e w84 ⟨v166, rfl, ho0, hb⟩; refine ⟨_, rfl, ?_⟩; have n0_ := aa (Kd.R_elder' (zcaken HO_12.out) (Kd.R_base ho0) hb); have n1_ := aa (Kd.R_lower (Kd.R_new' ho0 (Kd.R_lt (zcaken HO_12.out))) (below_size zkmbdh)); have n2_ := aa (blk_below (g := gb101) (o := .cells #[.int .i64 x102000_31, .string x102001_31, .slice none 0 0] 27 (0, 0)) (zkjhpm BK101.out) hb); have n3_ := aa (below_step zkmbdh hb); clear HO_12; clear BK101; clear HB; have HO_12 := n0_; have HO167 := n1_; have BK101 := n2_; have HB := n3_; clear n0_ n1_ n2_ n3_; (try clear hb); (try clear hk); (try clear hi); (try clear ho0); obtain ⟨Ao85, co85, eo85⟩ := Kd.R_slice HO167.out; subst eo85; have hcz86_0 : w84.cell? ⟨gb101, 0, none⟩ = some (.int .i64 x102000_31) := (blk_cell BK101.out 0).trans rfl; have hcz86_1 : w84.cell? ⟨gb101, 1, none⟩ = some (.string x102001_31) := (blk_cell BK101.out 1).trans rfl; have hcz86_2 : w84.cell? ⟨gb101, 2, none⟩ = some (.slice none 0 0) := (blk_cell BK101.out 2).trans rfl; have hfz86_0 := blk_frozen BK101.out 0; have hfz86_1 := blk_frozen BK101.out 1; have hfz86_2 := blk_frozen BK101.out 2))
          refine bodyPost_ret (results_cell_row rfl _ _ gb101 27 #[.int .i64 0, .string x1_31, .slice Ao85 t165.length co85] (0, 0) _ rfl (by (with_reducible repeat (first | refine blk_drewN ?_ _ | refine blk_drew ?_ | refine blk_alloc ?_ _)); refine blk_put (cs := #[.int .i64 0, .string x1_31, .slice none 0 0]) ?_ 2 _ rfl; (with_reducible repeat (first | refine blk_drewN ?_ _ | refine blk_drew ?_ | refine blk_alloc ?_ _)); refine blk_put (cs := #[.int .i64 0, .string x102001_31, .slice none 0 0]) ?_ 1 _ rfl; (with_reducible repeat (first | refine blk_drewN ?_ _ | refine blk_drew ?_ | refine blk_alloc ?_ _)); refine blk_put (cs := #[.int .i64 x102000_31, .string x102001_31, .slice none 0 0]) ?_ 0 _ rfl; (with_reducible repeat (first | refine blk_drewN ?_ _ | refine blk_drew ?_ | refine blk_alloc ?_ _)); exact BK101.out) Tryd.underlying27 rfl (by kernel_rfl)) rfl ?_
          exact ⟨_, by first | rfl | (simp [errW_none, errW_some] <;> rfl) | (simp [*, errW_none, errW_some] <;> rfl), by (with_reducible repeat (first | apply Kd.R_alloc | apply Kd.R_drewN | apply Kd.R_drew)); exact Kd.R_mono (Kd.R_far (p := ⟨gb101, 2, none⟩) (Kd.R_far (p := ⟨gb101, 1, none⟩) (Kd.R_far (p := ⟨gb101, 0, none⟩) (Kd.R_types HO167.out BK101.out (by decide)) (fun _ hk => hk.2) (.int .i64 0)) (fun _ hk => hk.2) (.string x1_31)) (fun _ hk => hk.2) (.slice Ao85 t165.length co85)) (fun _ hk => trivial), by repeat (first | (with_reducible first | exact HB.out | apply below_alloc | apply pw_below_drewN | apply below_drew1 | refine below_set ?_ GE101.out) | exact HB.out)⟩
      rw [if_neg c30] at H
      have c30b0 : (((rd_T44 l0 t115).f3) == 0) = false := beq_eq_false_iff_ne.mpr c30
      have c30b1 : (((rd_T44 l0 t115).f3) != 0) = true := bne_iff_ne.mpr c30
      replace H := Option.bind_eq_some_iff.mp H
      obtain ⟨⟨t122, t123, t124⟩, A870, H⟩ := H
      replace H : (some (t122, t123, t124)) = some (r1, r2, r3) := H
      have A87 := aa A870
      clear A870
      simp only [Option.some.injEq, Prod.mk.injEq] at H
      obtain ⟨rfl, rfl, rfl⟩ := H
      go_wp2_with (first | ((with_reducible refine gate_callee (f := 44) rfl ?_); refine goesL_ (some 30) rfl rfl Tryd.func44 (by kernel_rfl) rfl #[.string a1] rfl zjnmae ?_; (with_reducible refine (spec_l1Parent.calls kj5 a1 t114 _ A21.out).mono ?_); rintro e w' ⟨rfl, ⟨nd, rfl⟩⟩; refine ⟨_, rfl, ?_⟩; (try (rw [drewN_self wc]; generalize hq_ : World.drewN wc _ = wc; have n0_ : Aside0 (wc.heap[gb101]? = some (.cells #[.int .i64 0, .string (⟨#[]⟩ : ByteArray), .slice none 0 0] 27 (0, 0))) := ⟨by rw [← hq_]; exact (zkjhpm BK101.out)⟩; have n1_ : Aside0 (Below w.heap.size w wc) := ⟨by rw [← hq_]; exact zkmbdh⟩; clear BK101 HB hq_; have BK101 := n0_; have HB := n1_; clear n0_ n1_))) | ((with_reducible refine gate_callee (f := 43) rfl ?_); refine goesL_ (some 31) rfl rfl Tryd.func43 (by kernel_rfl) rfl #[.slice A0 l0.length c0, .string t114] rfl zjnmae ?_; (with_reducible refine (spec_l2At.calls kj5 _ _ l0 t114 t115 _ ?side1 ?side2 A22.out).mono ?_); (case side1 => exact zfmbgg); (case side2 => exact HC0.out); rintro e w' ⟨rfl, ⟨nd, rfl⟩⟩; refine ⟨_, rfl, ?_⟩; (try (rw [drewN_self wc]; generalize hq_ : World.drewN wc _ = wc; have n0_ : Aside0 (wc.heap[gb101]? = some (.cells #[.int .i64 0, .string (⟨#[]⟩ : ByteArray), .slice none 0 0] 27 (0, 0))) := ⟨by rw [← hq_]; exact (zkjhpm BK101.out)⟩; have n1_ : Aside0 (Below w.heap.size w wc) := ⟨by rw [← hq_]; exact zkmbdh⟩; clear BK101 HB hq_; have BK101 := n0_; have HB := n1_; clear n0_ n1_)); have p121 : 0 ≤ (t115 : Int) := of_decide_eq_true zgglam; have q121 : t115 < (l0.length : Int) := of_decide_eq_true zgglam; obtain ⟨ad121, e121, hx121_0, hx121_1, hx121_2, hx121_3, hx121_4⟩ := at_T44 HR0.out t115 p121 q121; cases e121; replace hx121_0 := pb HB.out hx121_0; replace hx121_1 := pb HB.out hx121_1; replace hx121_2 := pb HB.out hx121_2; replace hx121_3 := pb HB.out hx121_3; replace hx121_4 := pb HB.out hx121_4; replace p121 := eq_true p121; replace q121 := eq_true q121) | ((with_reducible refine gate_callee (f := 24) rfl ?_); refine goesL_ (some 41) rfl rfl Tryd.func24 (by kernel_rfl) rfl #[.int .i64 8] rfl zjnmae ?_; (with_reducible refine (spec_l2Bad.calls 8 t122 t123 t124 _ A87.out).mono ?_); rintro e w88 ⟨v125, rfl, ho0, hb⟩; refine ⟨_, rfl, ?_⟩; have HO126 := aa (Kd.R_lower ho0 (below_size zkmbdh)); replace BK101 := aa (blk_below (g := gb101) (o := .cells #[.int .i64 0, .string (⟨#[]⟩ : ByteArray), .slice none 0 0] 27 (0, 0)) (zkjhpm BK101.out) hb); replace HB := aa (below_step zkmbdh hb); (try clear hb); (try clear hk); (try clear hi); (try clear ho0); have hcz89_0 : w88.cell? ⟨gb101, 0, none⟩ = some (.int .i64 0) := (blk_cell BK101.out 0).trans rfl; have hcz89_1 : w88.cell? ⟨gb101, 1, none⟩ = some (.string (⟨#[]⟩ : ByteArray)) := (blk_cell BK101.out 1).trans rfl; have hcz89_2 : w88.cell? ⟨gb101, 2, none⟩ = some (.slice none 0 0) := (blk_cell BK101.out 2).trans rfl; have hfz89_0 := blk_frozen BK101.out 0; have hfz89_1 := blk_frozen BK101.out 1; have hfz89_2 := blk_frozen BK101.out 2; obtain ⟨Ao90, co90, eo90⟩ := Kd.R_slice HO126.out; subst eo90))
      refine bodyPost_ret (results_cell_row rfl _ _ gb101 27 #[.int .i64 t122, .string t123, .slice Ao90 t124.length co90] (0, 0) _ rfl zmnjfm Tryd.underlying27 rfl (by kernel_rfl)) rfl ?_
      exact ⟨_, by first | rfl | (simp [errW_none, errW_some] <;> rfl) | (simp [*, errW_none, errW_some] <;> rfl), by (with_reducible repeat (first | apply Kd.R_alloc | apply Kd.R_drewN | apply Kd.R_drew)); exact Kd.R_mono (Kd.R_far (p := ⟨gb101, 2, none⟩) (Kd.R_far (p := ⟨gb101, 1, none⟩) (Kd.R_far (p := ⟨gb101, 0, none⟩) (Kd.R_types HO126.out BK101.out (by decide)) (fun _ hk => hk.2) (.int .i64 t122)) (fun _ hk => hk.2) (.string t123)) (fun _ hk => hk.2) (.slice Ao90 t124.length co90)) (fun _ hk => trivial), by repeat (first | (with_reducible first | exact HB.out | apply below_alloc | apply pw_below_drewN | apply below_drew1 | refine below_set ?_ GE101.out) | exact HB.out)⟩
     rw [if_neg c29] at H
     exact absurd H (by simp)
    rw [if_neg c28] at H
    exact absurd H (by simp)
/-! ### spec_l2Set: function 67 -/
def spec_l2Set.j0 : Nat → List (S44) → Int → Int → Bool → Option (Int × ByteArray × (List (S44)))
 | 0, _, _, _, _ => none
 | k + 1, x0, x2, x9, x31 => if x31 = true then ((spec_l2Bad.f 7).bind fun bt115 => (some (bt115.1, bt115.2.1, bt115.2.2))) else (if 0 ≤ x9 then (if x9 < (x0.length : Int) then (if ((rd_T44 x0 x9).f2) ≥ 999 then ((spec_l2Bad.f 2).bind fun bt121 => (some (bt121.1, bt121.2.1, bt121.2.2))) else ((spec_l2Copy.f x0).bind fun t126 => (if x9 < (t126.length : Int) then ((some (t126.set (x9 : Int).toNat (⟨(rd_T44 t126 x9).f0, x2, (rd_T44 t126 x9).f2, (rd_T44 t126 x9).f3, (rd_T44 t126 x9).f4⟩ : S44) : List (S44))).bind fun y129 => (some (0, (⟨#[]⟩ : ByteArray), (y129.set (x9 : Int).toNat (⟨(rd_T44 y129 x9).f0, (rd_T44 y129 x9).f1, wrap64 (((rd_T44 y129 x9).f2) + 1), (rd_T44 y129 x9).f3, (rd_T44 y129 x9).f4⟩ : S44))))) else (none)))) else (none)) else (none))
def spec_l2Set.f (k : Nat) (l0 : List (S44)) (a1 : ByteArray) (a2 : Int) (a3 : Int) : Option (Int × ByteArray × (List (S44))) := (spec_l2Data.f a2).bind fun t102 => (if t102 = true then ((spec_l2At.f k l0 a1).bind fun t108 => (if t108 < 0 then ((spec_l2Bad.f 4).bind fun bt109 => (some (bt109.1, bt109.2.1, bt109.2.2))) else (if a3 = (-1) then (spec_l2Set.j0 k l0 a2 t108 false) else (if 0 ≤ t108 then (if t108 < (l0.length : Int) then (spec_l2Set.j0 k l0 a2 t108 (a3 != ((rd_T44 l0 t108).f2))) else (none)) else (none))))) else ((spec_l2Bad.f 3).bind fun bt103 => (some (bt103.1, bt103.2.1, bt103.2.2))))
theorem spec_l2Set.mono_l : ∀ k, (∀ y0 y1 y2 y3, LeO (spec_l2Set.j0 k y0 y1 y2 y3) (spec_l2Set.j0 (k + 1) y0 y1 y2 y3))
 | 0 => fun _ _ _ _ r h => by simp [spec_l2Set.j0] at h
 | k + 1 => by
  have ih0 := spec_l2Set.mono_l k
  ·
   intro y0 y1 y2 y3
   unfold spec_l2Set.j0
   repeat' first
   | (with_reducible exact ih0 _ _ _ _)
   | (with_reducible exact spec_l2At.mono _ _ _)
   | (with_reducible exact LeO.refl _)
   | (with_reducible exact LeO.none _)
   | (with_reducible refine LeO.ite ?_ ?_)
   | (with_reducible refine LeO.bind ?_ (fun _ => ?_))
theorem spec_l2Set.mono : ∀ a0 a1 a2 a3 k, LeO (spec_l2Set.f k a0 a1 a2 a3) (spec_l2Set.f (k + 1) a0 a1 a2 a3) := by
 intro a0 a1 a2 a3 k
 have ih0 := spec_l2Set.mono_l k
 unfold spec_l2Set.f
 repeat' first
   | (with_reducible exact ih0 _ _ _ _)
   | (with_reducible exact spec_l2At.mono _ _ _)
   | (with_reducible exact LeO.refl _)
   | (with_reducible exact LeO.none _)
   | (with_reducible refine LeO.ite ?_ ?_)
   | (with_reducible refine LeO.bind ?_ (fun _ => ?_))
theorem spec_l2Set.calls (k : Nat) (A0 : Option Addr) (c0 : Nat) (l0 : List (S44)) (a1 : ByteArray) (a2 : Int) (a3 : Int) (r1 : Int) (r2 : ByteArray) (r3 : List (S44)) (w : World) (hr0 : Kd.C k44 w A0 l0.length l0) (hc0 : l0.length ≤ c0) (h : spec_l2Set.f k l0 a1 a2 a3 = some (r1, r2, r3)) :
  Calls Tryd.prog 67 #[.slice A0 l0.length c0, .string a1, .int .i64 a2, .int .i64 a3] w fun e w' => ∃ v2_ : Value, e = .returned (.agg #[.int .i64 r1, .string r2, v2_]) ∧ Kd.R k44 44 w' w.heap.size (fun _ => True) v2_ r3 ∧ Below w.heap.size w w' := by
 have hu27 := Tryd.underlying27
 have HR0 := aa hr0
 have HC0 := aa hc0
 clear hr0 hc0
 have HB := aa (Below.refl w.heap.size w)
 have H : ((spec_l2Data.f a2).bind fun t102 => (if t102 = true then ((spec_l2At.f k l0 a1).bind fun t108 => (if t108 < 0 then ((spec_l2Bad.f 4).bind fun bt109 => (some (bt109.1, bt109.2.1, bt109.2.2))) else (if a3 = (-1) then (spec_l2Set.j0 k l0 a2 t108 false) else (if 0 ≤ t108 then (if t108 < (l0.length : Int) then (spec_l2Set.j0 k l0 a2 t108 (a3 != ((rd_T44 l0 t108).f2))) else (none)) else (none))))) else ((spec_l2Bad.f 3).bind fun bt103 => (some (bt103.1, bt103.2.1, bt103.2.2))))) = some (r1, r2, r3) := h
 clear h
 revert H
 refine obs_ fun t102 A5 H => ?_
 by_cases c6 : t102 = true
 ·
  subst c6
  replace H : ((spec_l2At.f k l0 a1).bind fun t108 => (if t108 < 0 then ((spec_l2Bad.f 4).bind fun bt109 => (some (bt109.1, bt109.2.1, bt109.2.2))) else (if a3 = (-1) then (spec_l2Set.j0 k l0 a2 t108 false) else (if 0 ≤ t108 then (if t108 < (l0.length : Int) then (spec_l2Set.j0 k l0 a2 t108 (a3 != ((rd_T44 l0 t108).f2))) else (none)) else (none))))) = some (r1, r2, r3) := by rw [if_pos rfl] at H; exact H
  revert H
  refine obs_ fun t108 A7 H => ?_
  by_cases c8 : t108 < 0
  ·
   rw [if_pos c8] at H
   have c8b0 : decide (t108 < 0) = true := decide_eq_true c8
   clear c8
   replace H := Option.bind_eq_some_iff.mp H
   obtain ⟨⟨t109, t110, t111⟩, A90, H⟩ := H
   replace H : (some (t109, t110, t111)) = some (r1, r2, r3) := H
   have A9 := aa A90
   clear A90
   simp only [Option.some.injEq, Prod.mk.injEq] at H
   obtain ⟨rfl, rfl, rfl⟩ := H
   go_enter Tryd.func67, Tryd.ntmps67
   go_wp2_with (first | ((with_reducible refine gate_dst (N := 8) rfl ?_); refine box_event ?hg (N := 8) ?hd (cs := #[.int .i64 0, .string (⟨#[]⟩ : ByteArray), .slice none 0 0]) (t := 27) ?hr ?_; (case hd => rfl); (case hg => rfl); (case hr => exact zhlgcp); intro gb101 hg w10 hbox hb; have n0_ := aa (below_step zjjbob hb); have n1_ := aa (hbox); have n2_ := aa ((zkpfjp : w.heap.size ≤ gb101)); have n3_ := aa ((zkpfjp : w.heap.size ≤ gb101)); clear HB; have HB := n0_; have BK101 := n1_; have GW101 := n2_; have GE101 := n3_; clear n0_ n1_ n2_ n3_; clear hb hbox hg) | ((with_reducible refine gate_callee (f := 40) rfl ?_); refine goesL_ (some 12) rfl rfl Tryd.func40 (by kernel_rfl) rfl #[.int .i64 a2] rfl zjnmae ?_; (with_reducible refine (spec_l2Data.calls a2 true _ A5.out).mono ?_); rintro e w' ⟨rfl, ⟨nd, rfl⟩⟩; refine ⟨_, rfl, ?_⟩; (try (rw [drewN_self w10]; generalize hq_ : World.drewN w10 _ = w10; have n0_ : Aside0 (w10.heap[gb101]? = some (.cells #[.int .i64 0, .string (⟨#[]⟩ : ByteArray), .slice none 0 0] 27 (0, 0))) := ⟨by rw [← hq_]; exact (zkjhpm BK101.out)⟩; have n1_ : Aside0 (Below w.heap.size w w10) := ⟨by rw [← hq_]; exact zkmbdh⟩; clear BK101 HB hq_; have BK101 := n0_; have HB := n1_; clear n0_ n1_))) | ((with_reducible refine gate_callee (f := 43) rfl ?_); refine goesL_ (some 17) rfl rfl Tryd.func43 (by kernel_rfl) rfl #[.slice A0 l0.length c0, .string a1] rfl zjnmae ?_; (with_reducible refine (spec_l2At.calls k _ _ l0 a1 t108 _ ?side1 ?side2 A7.out).mono ?_); (case side1 => exact zfmbgg); (case side2 => exact HC0.out); rintro e w' ⟨rfl, ⟨nd, rfl⟩⟩; refine ⟨_, rfl, ?_⟩; (try (rw [drewN_self w10]; generalize hq_ : World.drewN w10 _ = w10; have n0_ : Aside0 (w10.heap[gb101]? = some (.cells #[.int .i64 0, .string (⟨#[]⟩ : ByteArray), .slice none 0 0] 27 (0, 0))) := ⟨by rw [← hq_]; exact (zkjhpm BK101.out)⟩; have n1_ : Aside0 (Below w.heap.size w w10) := ⟨by rw [← hq_]; exact zkmbdh⟩; clear BK101 HB hq_; have BK101 := n0_; have HB := n1_; clear n0_ n1_))) | ((with_reducible refine gate_callee (f := 24) rfl ?_); refine goesL_ (some 20) rfl rfl Tryd.func24 (by kernel_rfl) rfl #[.int .i64 4] rfl zjnmae ?_; (with_reducible refine (spec_l2Bad.calls 4 t109 t110 t111 _ A9.out).mono ?_); rintro e w11 ⟨v112, rfl, ho0, hb⟩; refine ⟨_, rfl, ?_⟩; have HO113 := aa (Kd.R_lower ho0 (below_size zkmbdh)); replace BK101 := aa (blk_below (g := gb101) (o := .cells #[.int .i64 0, .string (⟨#[]⟩ : ByteArray), .slice none 0 0] 27 (0, 0)) (zkjhpm BK101.out) hb); replace HB := aa (below_step zkmbdh hb); (try clear hb); (try clear hk); (try clear hi); (try clear ho0); have hcz12_0 : w11.cell? ⟨gb101, 0, none⟩ = some (.int .i64 0) := (blk_cell BK101.out 0).trans rfl; have hcz12_1 : w11.cell? ⟨gb101, 1, none⟩ = some (.string (⟨#[]⟩ : ByteArray)) := (blk_cell BK101.out 1).trans rfl; have hcz12_2 : w11.cell? ⟨gb101, 2, none⟩ = some (.slice none 0 0) := (blk_cell BK101.out 2).trans rfl; have hfz12_0 := blk_frozen BK101.out 0; have hfz12_1 := blk_frozen BK101.out 1; have hfz12_2 := blk_frozen BK101.out 2; obtain ⟨Ao13, co13, eo13⟩ := Kd.R_slice HO113.out; subst eo13))
   refine bodyPost_ret (results_cell_row rfl _ _ gb101 27 #[.int .i64 t109, .string t110, .slice Ao13 t111.length co13] (0, 0) _ rfl zblijj Tryd.underlying27 rfl (by kernel_rfl)) rfl ?_
   exact ⟨_, by first | rfl | (simp [errW_none, errW_some] <;> rfl) | (simp [*, errW_none, errW_some] <;> rfl), by (with_reducible repeat (first | apply Kd.R_alloc | apply Kd.R_drewN | apply Kd.R_drew)); exact Kd.R_mono (Kd.R_far (p := ⟨gb101, 2, none⟩) (Kd.R_far (p := ⟨gb101, 1, none⟩) (Kd.R_far (p := ⟨gb101, 0, none⟩) (Kd.R_types HO113.out BK101.out (by decide)) (fun _ hk => hk.2) (.int .i64 t109)) (fun _ hk => hk.2) (.string t110)) (fun _ hk => hk.2) (.slice Ao13 t111.length co13)) (fun _ hk => trivial), by repeat (first | (with_reducible first | exact HB.out | apply below_alloc | apply pw_below_drewN | apply below_drew1 | refine below_set ?_ GE101.out) | exact HB.out)⟩
  rw [if_neg c8] at H
  have c8b0 : decide (t108 < 0) = false := decide_eq_false c8
  clear c8
  have HC14 := aa H
  clear H
  go_enter Tryd.func67, Tryd.ntmps67
  go_upto_region 6 with (first | ((with_reducible refine gate_dst (N := 8) rfl ?_); refine box_event ?hg (N := 8) ?hd (cs := #[.int .i64 0, .string (⟨#[]⟩ : ByteArray), .slice none 0 0]) (t := 27) ?hr ?_; (case hd => rfl); (case hg => rfl); (case hr => exact zhlgcp); intro gb101 hg w15 hbox hb; have n0_ := aa (below_step zjjbob hb); have n1_ := aa (hbox); have n2_ := aa ((zkpfjp : w.heap.size ≤ gb101)); have n3_ := aa ((zkpfjp : w.heap.size ≤ gb101)); clear HB; have HB := n0_; have BK101 := n1_; have GW101 := n2_; have GE101 := n3_; clear n0_ n1_ n2_ n3_; clear hb hbox hg) | ((with_reducible refine gate_callee (f := 40) rfl ?_); refine goesL_ (some 12) rfl rfl Tryd.func40 (by kernel_rfl) rfl #[.int .i64 a2] rfl zjnmae ?_; (with_reducible refine (spec_l2Data.calls a2 true _ A5.out).mono ?_); rintro e w' ⟨rfl, ⟨nd, rfl⟩⟩; refine ⟨_, rfl, ?_⟩) | ((with_reducible refine gate_callee (f := 43) rfl ?_); refine goesL_ (some 17) rfl rfl Tryd.func43 (by kernel_rfl) rfl #[.slice A0 l0.length c0, .string a1] rfl zjnmae ?_; (with_reducible refine (spec_l2At.calls k _ _ l0 a1 t108 _ ?side1 ?side2 A7.out).mono ?_); (case side1 => exact zklojj); (case side2 => exact HC0.out); rintro e w' ⟨rfl, ⟨nd, rfl⟩⟩; refine ⟨_, rfl, ?_⟩))
  (try simp only [Act.put, List.setIfInBounds_toArray, List.set_cons_zero, List.set_cons_succ])
  go_cut [31] (fun v31 wc => ∃ (kq : Nat) (x31_13 : Bool), v31 = .bool x31_13 ∧ Aside0 (spec_l2Set.j0 kq l0 a2 t108 x31_13 = some (r1, r2, r3)) ∧ Aside0 (kq ≤ k) ∧ Aside0 (wc.heap[gb101]? = some (.cells #[.int .i64 0, .string (⟨#[]⟩ : ByteArray), (.slice none 0 0)] 27 (0, 0))) ∧ Aside0 (Below w.heap.size w wc))
  case first =>
   have H := HC14.out
   clear HC14
   by_cases c16 : a3 = (-1)
   ·
    rw [if_pos c16] at H
    have c16b0 : (a3 == (-1)) = true := beq_iff_eq.mpr c16
    have c16b1 : (a3 != (-1)) = false := bne_eq_false_iff_eq.mpr c16
    clear c16
    (first | rw [c16b0] | (simp only [i64_w, i32_w]; rw [c16b0]) | (simp only [c16b2, Bool.not_false, Bool.not_true]) | skip)
    have H' := aa H
    clear H
    go_wp2
    go_meet
    case rel => exact ⟨_, (false), zagbkp, H', ⟨by first | omega | exact Nat.le_refl _⟩, ⟨by (with_reducible repeat (first | refine blk_drewN ?_ _ | refine blk_drew ?_ | refine blk_alloc ?_ _)); exact BK101.out⟩, ⟨by repeat (first | (with_reducible first | exact HB.out | apply below_alloc | apply pw_below_drewN | apply below_drew1 | refine below_set ?_ GE101.out) | exact HB.out)⟩⟩
   rw [if_neg c16] at H
   have c16b0 : (a3 == (-1)) = false := beq_eq_false_iff_ne.mpr c16
   have c16b1 : (a3 != (-1)) = true := bne_iff_ne.mpr c16
   (first | rw [c16b0] | (simp only [i64_w, i32_w]; rw [c16b0]) | (simp only [c16b2, Bool.not_false, Bool.not_true]) | skip)
   by_cases c17 : 0 ≤ t108
   ·
    rw [if_pos c17] at H
    have c17b0 : decide (0 ≤ t108) = true := decide_eq_true c17
    clear c17
    by_cases c18 : t108 < (l0.length : Int)
    ·
     rw [if_pos c18] at H
     have c18b0 : decide (t108 < (l0.length : Int)) = true := decide_eq_true c18
     clear c18
     have H' := aa H
     clear H
     have p114 : 0 ≤ (t108 : Int) := of_decide_eq_true zgglam
     have q114 : t108 < (l0.length : Int) := of_decide_eq_true zgglam
     obtain ⟨ad114, e114, hx114_0, hx114_1, hx114_2, hx114_3, hx114_4⟩ := at_T44 HR0.out t108 p114 q114
     cases e114
     replace hx114_0 := pb HB.out hx114_0
     replace hx114_1 := pb HB.out hx114_1
     replace hx114_2 := pb HB.out hx114_2
     replace hx114_3 := pb HB.out hx114_3
     replace hx114_4 := pb HB.out hx114_4
     replace p114 := eq_true p114
     replace q114 := eq_true q114
     go_wp2
     go_meet
     case rel => exact ⟨_, ((a3 != ((rd_T44 l0 t108).f2))), zagbkp, H', ⟨by first | omega | exact Nat.le_refl _⟩, ⟨by (with_reducible repeat (first | refine blk_drewN ?_ _ | refine blk_drew ?_ | refine blk_alloc ?_ _)); exact BK101.out⟩, ⟨by repeat (first | (with_reducible first | exact HB.out | apply below_alloc | apply pw_below_drewN | apply below_drew1 | refine below_set ?_ GE101.out) | exact HB.out)⟩⟩
    rw [if_neg c18] at H
    exact absurd H (by simp)
   rw [if_neg c17] at H
   exact absurd H (by simp)
  case rest =>
   clear HC14
   try clear c1
   try clear p1
   try clear q1
   try clear hx1
   try clear c2
   try clear p2
   try clear c4
   try clear c6
   try clear c8
   try clear c8b0
   try clear p11
   try clear q11
   try clear hx11
   try clear c16
   try clear c16b0
   try clear c16b1
   try clear c16b2
   try clear c17
   try clear c17b0
   try clear c18
   try clear c18b0
   try clear hcz12_0
   try clear hcz12_1
   try clear hcz12_2
   try clear hfz12_0
   try clear hfz12_1
   try clear hfz12_2
   try clear hx114_0
   try clear hx114_1
   try clear hx114_2
   try clear hx114_3
   try clear hx114_4
   try clear p114
   try clear q114
   obtain ⟨kq, x31_13, rfl, HA, HJ13, BK101, HB⟩ := hcut
   cases kq with
   | zero => exact absurd HA.out (by simp [spec_l2Set.j0])
   | succ kj13 =>
    have H := HA.out
    clear HA
    simp only [spec_l2Set.j0] at H
    by_cases c19 : x31_13 = true
    ·
     subst c19
     replace H : ((spec_l2Bad.f 7).bind fun bt115 => (some (bt115.1, bt115.2.1, bt115.2.2))) = some (r1, r2, r3) := by rw [if_pos rfl] at H; exact H
     replace H := Option.bind_eq_some_iff.mp H
     obtain ⟨⟨t115, t116, t117⟩, A200, H⟩ := H
     replace H : (some (t115, t116, t117)) = some (r1, r2, r3) := H
     have A20 := aa A200
     clear A200
     simp only [Option.some.injEq, Prod.mk.injEq] at H
     obtain ⟨rfl, rfl, rfl⟩ := H
     go_wp2_with (first | ((with_reducible refine gate_callee (f := 24) rfl ?_); refine goesL_ (some 32) rfl rfl Tryd.func24 (by kernel_rfl) rfl #[.int .i64 7] rfl zjnmae ?_; (with_reducible refine (spec_l2Bad.calls 7 t115 t116 t117 _ A20.out).mono ?_); rintro e w21 ⟨v118, rfl, ho0, hb⟩; refine ⟨_, rfl, ?_⟩; have HO119 := aa (Kd.R_lower ho0 (below_size zkmbdh)); replace BK101 := aa (blk_below (g := gb101) (o := .cells #[.int .i64 0, .string (⟨#[]⟩ : ByteArray), .slice none 0 0] 27 (0, 0)) (zkjhpm BK101.out) hb); replace HB := aa (below_step zkmbdh hb); (try clear hb); (try clear hk); (try clear hi); (try clear ho0); have hcz22_0 : w21.cell? ⟨gb101, 0, none⟩ = some (.int .i64 0) := (blk_cell BK101.out 0).trans rfl; have hcz22_1 : w21.cell? ⟨gb101, 1, none⟩ = some (.string (⟨#[]⟩ : ByteArray)) := (blk_cell BK101.out 1).trans rfl; have hcz22_2 : w21.cell? ⟨gb101, 2, none⟩ = some (.slice none 0 0) := (blk_cell BK101.out 2).trans rfl; have hfz22_0 := blk_frozen BK101.out 0; have hfz22_1 := blk_frozen BK101.out 1; have hfz22_2 := blk_frozen BK101.out 2; obtain ⟨Ao23, co23, eo23⟩ := Kd.R_slice HO119.out; subst eo23))
     refine bodyPost_ret (results_cell_row rfl _ _ gb101 27 #[.int .i64 t115, .string t116, .slice Ao23 t117.length co23] (0, 0) _ rfl (by (with_reducible repeat (first | refine blk_drewN ?_ _ | refine blk_drew ?_ | refine blk_alloc ?_ _)); refine blk_put (cs := #[.int .i64 t115, .string t116, .slice none 0 0]) ?_ 2 _ rfl; (with_reducible repeat (first | refine blk_drewN ?_ _ | refine blk_drew ?_ | refine blk_alloc ?_ _)); refine blk_put (cs := #[.int .i64 t115, .string (⟨#[]⟩ : ByteArray), .slice none 0 0]) ?_ 1 _ rfl; (with_reducible repeat (first | refine blk_drewN ?_ _ | refine blk_drew ?_ | refine blk_alloc ?_ _)); refine blk_put (cs := #[.int .i64 0, .string (⟨#[]⟩ : ByteArray), .slice none 0 0]) ?_ 0 _ rfl; (with_reducible repeat (first | refine blk_drewN ?_ _ | refine blk_drew ?_ | refine blk_alloc ?_ _)); exact BK101.out) Tryd.underlying27 rfl (by kernel_rfl)) rfl ?_
     exact ⟨_, by first | rfl | (simp [errW_none, errW_some] <;> rfl) | (simp [*, errW_none, errW_some] <;> rfl), by (with_reducible repeat (first | apply Kd.R_alloc | apply Kd.R_drewN | apply Kd.R_drew)); exact Kd.R_mono (Kd.R_far (p := ⟨gb101, 2, none⟩) (Kd.R_far (p := ⟨gb101, 1, none⟩) (Kd.R_far (p := ⟨gb101, 0, none⟩) (Kd.R_types HO119.out BK101.out (by decide)) (fun _ hk => hk.2) (.int .i64 t115)) (fun _ hk => hk.2) (.string t116)) (fun _ hk => hk.2) (.slice Ao23 t117.length co23)) (fun _ hk => trivial), by repeat (first | (with_reducible first | exact HB.out | apply below_alloc | apply pw_below_drewN | apply below_drew1 | refine below_set ?_ GE101.out) | exact HB.out)⟩
    ·
     replace c19 := Bool.eq_false_iff.mpr c19
     subst c19
     replace H : (if 0 ≤ t108 then (if t108 < (l0.length : Int) then (if ((rd_T44 l0 t108).f2) ≥ 999 then ((spec_l2Bad.f 2).bind fun bt121 => (some (bt121.1, bt121.2.1, bt121.2.2))) else ((spec_l2Copy.f l0).bind fun t126 => (if t108 < (t126.length : Int) then ((some (t126.set (t108 : Int).toNat (⟨(rd_T44 t126 t108).f0, a2, (rd_T44 t126 t108).f2, (rd_T44 t126 t108).f3, (rd_T44 t126 t108).f4⟩ : S44) : List (S44))).bind fun y129 => (some (0, (⟨#[]⟩ : ByteArray), (y129.set (t108 : Int).toNat (⟨(rd_T44 y129 t108).f0, (rd_T44 y129 t108).f1, wrap64 (((rd_T44 y129 t108).f2) + 1), (rd_T44 y129 t108).f3, (rd_T44 y129 t108).f4⟩ : S44))))) else (none)))) else (none)) else (none)) = some (r1, r2, r3) := by rw [if_neg (show ¬ (false = true) by decide)] at H; exact H
     by_cases c24 : 0 ≤ t108
     ·
      rw [if_pos c24] at H
      have c24b0 : decide (0 ≤ t108) = true := decide_eq_true c24
      clear c24
      by_cases c25 : t108 < (l0.length : Int)
      ·
       rw [if_pos c25] at H
       have c25b0 : decide (t108 < (l0.length : Int)) = true := decide_eq_true c25
       clear c25
       by_cases c26 : ((rd_T44 l0 t108).f2) ≥ 999
       ·
        rw [if_pos c26] at H
        have c26b0 : decide (999 ≤ ((rd_T44 l0 t108).f2)) = true := decide_eq_true c26
        clear c26
        replace H := Option.bind_eq_some_iff.mp H
        obtain ⟨⟨t121, t122, t123⟩, A270, H⟩ := H
        replace H : (some (t121, t122, t123)) = some (r1, r2, r3) := H
        have A27 := aa A270
        clear A270
        simp only [Option.some.injEq, Prod.mk.injEq] at H
        obtain ⟨rfl, rfl, rfl⟩ := H
        have p120 : 0 ≤ (t108 : Int) := of_decide_eq_true zgglam
        have q120 : t108 < (l0.length : Int) := of_decide_eq_true zgglam
        obtain ⟨ad120, e120, hx120_0, hx120_1, hx120_2, hx120_3, hx120_4⟩ := at_T44 HR0.out t108 p120 q120
        cases e120
        replace hx120_0 := pb HB.out hx120_0
        replace hx120_1 := pb HB.out hx120_1
        replace hx120_2 := pb HB.out hx120_2
        replace hx120_3 := pb HB.out hx120_3
        replace hx120_4 := pb HB.out hx120_4
        replace p120 := eq_true p120
        replace q120 := eq_true q120
        go_wp2_with (first | ((with_reducible refine gate_callee (f := 24) rfl ?_); refine goesL_ (some 39) rfl rfl Tryd.func24 (by kernel_rfl) rfl #[.int .i64 2] rfl zjnmae ?_; (with_reducible refine (spec_l2Bad.calls 2 t121 t122 t123 _ A27.out).mono ?_); rintro e w28 ⟨v124, rfl, ho0, hb⟩; refine ⟨_, rfl, ?_⟩; have HO125 := aa (Kd.R_lower ho0 (below_size zkmbdh)); replace BK101 := aa (blk_below (g := gb101) (o := .cells #[.int .i64 0, .string (⟨#[]⟩ : ByteArray), .slice none 0 0] 27 (0, 0)) (zkjhpm BK101.out) hb); replace HB := aa (below_step zkmbdh hb); (try clear hb); (try clear hk); (try clear hi); (try clear ho0); have hcz29_0 : w28.cell? ⟨gb101, 0, none⟩ = some (.int .i64 0) := (blk_cell BK101.out 0).trans rfl; have hcz29_1 : w28.cell? ⟨gb101, 1, none⟩ = some (.string (⟨#[]⟩ : ByteArray)) := (blk_cell BK101.out 1).trans rfl; have hcz29_2 : w28.cell? ⟨gb101, 2, none⟩ = some (.slice none 0 0) := (blk_cell BK101.out 2).trans rfl; have hfz29_0 := blk_frozen BK101.out 0; have hfz29_1 := blk_frozen BK101.out 1; have hfz29_2 := blk_frozen BK101.out 2; obtain ⟨Ao30, co30, eo30⟩ := Kd.R_slice HO125.out; subst eo30))
        refine bodyPost_ret (results_cell_row rfl _ _ gb101 27 #[.int .i64 t121, .string t122, .slice Ao30 t123.length co30] (0, 0) _ rfl (by (with_reducible repeat (first | refine blk_drewN ?_ _ | refine blk_drew ?_ | refine blk_alloc ?_ _)); refine blk_put (cs := #[.int .i64 t121, .string t122, .slice none 0 0]) ?_ 2 _ rfl; (with_reducible repeat (first | refine blk_drewN ?_ _ | refine blk_drew ?_ | refine blk_alloc ?_ _)); refine blk_put (cs := #[.int .i64 t121, .string (⟨#[]⟩ : ByteArray), .slice none 0 0]) ?_ 1 _ rfl; (with_reducible repeat (first | refine blk_drewN ?_ _ | refine blk_drew ?_ | refine blk_alloc ?_ _)); refine blk_put (cs := #[.int .i64 0, .string (⟨#[]⟩ : ByteArray), .slice none 0 0]) ?_ 0 _ rfl; (with_reducible repeat (first | refine blk_drewN ?_ _ | refine blk_drew ?_ | refine blk_alloc ?_ _)); exact BK101.out) Tryd.underlying27 rfl (by kernel_rfl)) rfl ?_
        exact ⟨_, by first | rfl | (simp [errW_none, errW_some] <;> rfl) | (simp [*, errW_none, errW_some] <;> rfl), by (with_reducible repeat (first | apply Kd.R_alloc | apply Kd.R_drewN | apply Kd.R_drew)); exact Kd.R_mono (Kd.R_far (p := ⟨gb101, 2, none⟩) (Kd.R_far (p := ⟨gb101, 1, none⟩) (Kd.R_far (p := ⟨gb101, 0, none⟩) (Kd.R_types HO125.out BK101.out (by decide)) (fun _ hk => hk.2) (.int .i64 t121)) (fun _ hk => hk.2) (.string t122)) (fun _ hk => hk.2) (.slice Ao30 t123.length co30)) (fun _ hk => trivial), by repeat (first | (with_reducible first | exact HB.out | apply below_alloc | apply pw_below_drewN | apply below_drew1 | refine below_set ?_ GE101.out) | exact HB.out)⟩
       rw [if_neg c26] at H
       have c26b0 : decide (999 ≤ ((rd_T44 l0 t108).f2)) = false := decide_eq_false c26
       clear c26
       revert H
       refine obs_ fun t126 A31 H => ?_
       by_cases c32 : t108 < (t126.length : Int)
       ·
        rw [if_pos c32] at H
        have c32b0 : decide (t108 < (t126.length : Int)) = true := decide_eq_true c32
        clear c32
        obtain ⟨y129, hy129⟩ : ∃ y_ : List (S44), y_ = (t126.set (t108 : Int).toNat (⟨(rd_T44 t126 t108).f0, a2, (rd_T44 t126 t108).f2, (rd_T44 t126 t108).f3, (rd_T44 t126 t108).f4⟩ : S44)) := ⟨_, rfl⟩
        replace H : (some (0, (⟨#[]⟩ : ByteArray), (y129.set (t108 : Int).toNat (⟨(rd_T44 y129 t108).f0, (rd_T44 y129 t108).f1, wrap64 (((rd_T44 y129 t108).f2) + 1), (rd_T44 y129 t108).f3, (rd_T44 y129 t108).f4⟩ : S44)))) = some (r1, r2, r3) := by first | (rw [hy129]; with_reducible exact H) | (have H2_ := (Option.bind_some _ _).symm.trans H; rw [hy129]; with_reducible exact H2_) | (have H2_ := (Option.bind_some _ _).symm.trans H; with_reducible exact H2_) | with_reducible exact H | (rw [hy129]; exact H) | exact H
        have Ny129 := aa hy129
        clear hy129
        obtain ⟨y131, hy131⟩ : ∃ y_ : List (S44), y_ = (y129.set (t108 : Int).toNat (⟨(rd_T44 y129 t108).f0, (rd_T44 y129 t108).f1, wrap64 (((rd_T44 y129 t108).f2) + 1), (rd_T44 y129 t108).f3, (rd_T44 y129 t108).f4⟩ : S44)) := ⟨_, rfl⟩
        replace H : (some (0, (⟨#[]⟩ : ByteArray), y131)) = some (r1, r2, r3) := by first | (rw [hy131]; with_reducible exact H) | (have H2_ := (Option.bind_some _ _).symm.trans H; rw [hy131]; with_reducible exact H2_) | (have H2_ := (Option.bind_some _ _).symm.trans H; with_reducible exact H2_) | with_reducible exact H | (rw [hy131]; exact H) | exact H
        have Ny131 := aa hy131
        clear hy131
        simp only [Option.some.injEq, Prod.mk.injEq] at H
        obtain ⟨rfl, rfl, rfl⟩ := H
        have p120 : 0 ≤ (t108 : Int) := of_decide_eq_true zgglam
        have q120 : t108 < (l0.length : Int) := of_decide_eq_true zgglam
        obtain ⟨ad120, e120, hx120_0, hx120_1, hx120_2, hx120_3, hx120_4⟩ := at_T44 HR0.out t108 p120 q120
        cases e120
        replace hx120_0 := pb HB.out hx120_0
        replace hx120_1 := pb HB.out hx120_1
        replace hx120_2 := pb HB.out hx120_2
        replace hx120_3 := pb HB.out hx120_3
        replace hx120_4 := pb HB.out hx120_4
        replace p120 := eq_true p120
        replace q120 := eq_true q120
        go_wp2_with (first | ((with_reducible refine gate_callee (f := 77) rfl ?_); refine goesL_ (some 41) rfl rfl Tryd.func77 (by kernel_rfl) rfl #[.slice (some ad120) l0.length c0] rfl zjnmae ?_; (with_reducible refine (spec_l2Copy.calls _ _ l0 t126 _ ?side1 ?side2 A31.out).mono ?_); (case side1 => exact zfmbgg); (case side2 => exact HC0.out); rintro e w35 ⟨v127, rfl, ho0, hb⟩; refine ⟨_, rfl, ?_⟩; have HO128 := aa (Kd.R_lower ho0 (below_size zkmbdh)); replace BK101 := aa (blk_below (g := gb101) (o := .cells #[.int .i64 0, .string (⟨#[]⟩ : ByteArray), .slice none 0 0] 27 (0, 0)) (zkjhpm BK101.out) hb); replace HB := aa (below_step zkmbdh hb); (try clear hb); (try clear hk); (try clear hi); (try clear ho0); have p33 : 0 ≤ (t108 : Int) := of_decide_eq_true zgglam; have q33 : (t108 : Int) < ((t126.length : Int) : Int) := of_decide_eq_true zgglam; obtain ⟨go33, co33, eo33, gb33, gl33, cl33, HG33⟩ := Kd.R_form HO128.out (by omega); (first | cases eo33 | (injection eo33 with ea_ en_ ec_; (first | subst ea_ | (injection ea_ with ea_; subst ea_)); subst ec_; clear en_)); have GB33 := aa gb33; have GG33 := aa HG33; clear gb33 gl33 HG33; obtain ⟨ce33, hcl33, hM33, hcc33, hfr33⟩ := Kd.R_elem HO128.out z44 (t108 : Int) p33 q33; obtain rfl := k44_openM hM33; have hx33_0 : w35.cell? ⟨go33, (t108 : Int).toNat * 5, none⟩ = some (.string ((rd_T44 t126 t108).f0)) := hcc33 0 _ rfl; have hx33_1 : w35.cell? ⟨go33, (t108 : Int).toNat * 5 + 1, none⟩ = some (.int .i64 ((rd_T44 t126 t108).f1)) := hcc33 1 _ rfl; have hx33_2 : w35.cell? ⟨go33, (t108 : Int).toNat * 5 + 2, none⟩ = some (.int .i64 ((rd_T44 t126 t108).f2)) := hcc33 2 _ rfl; have hx33_3 : w35.cell? ⟨go33, (t108 : Int).toNat * 5 + 3, none⟩ = some (.int .i64 ((rd_T44 t126 t108).f3)) := hcc33 3 _ rfl; have hx33_4 : w35.cell? ⟨go33, (t108 : Int).toNat * 5 + 4, none⟩ = some (.int .i64 ((rd_T44 t126 t108).f4)) := hcc33 4 _ rfl; have hf33_0 : w35.frozen? ⟨go33, (t108 : Int).toNat * 5, none⟩ = false := hfr33 0; have hf33_1 : w35.frozen? ⟨go33, (t108 : Int).toNat * 5 + 1, none⟩ = false := hfr33 1; have hf33_2 : w35.frozen? ⟨go33, (t108 : Int).toNat * 5 + 2, none⟩ = false := hfr33 2; have hf33_3 : w35.frozen? ⟨go33, (t108 : Int).toNat * 5 + 3, none⟩ = false := hfr33 3; have hf33_4 : w35.frozen? ⟨go33, (t108 : Int).toNat * 5 + 4, none⟩ = false := hfr33 4; clear hcl33 hcc33 hfr33 hM33; replace p33 := eq_true p33; replace q33 := eq_true q33; have HX36 := aa (show Kd.R k44 44 w35 w.heap.size (fun _ => True) (.slice (some ⟨go33, 0, none⟩) t126.length co33) t126 from (zcaken HO128.out)); obtain ⟨ce36, hcl36, hM36, hcc36, hfr36⟩ := Kd.R_elem HX36.out z44 (t108 : Int) (of_decide_eq_true zgglam) (by have h_ : (t108 : Int) < ((t126.length : Int) : Int) := of_decide_eq_true zgglam; first | exact h_ | (have e_ := (Kd.R_reads' HO128.out).1; omega) | simpa using h_); obtain rfl := k44_openM hM36; have HP36 := Kd.R_seg HX36.out (t108 : Int) (of_decide_eq_true zgglam) (by have h_ : (t108 : Int) < ((t126.length : Int) : Int) := of_decide_eq_true zgglam; first | exact h_ | (have e_ := (Kd.R_reads' HO128.out).1; omega) | simpa using h_) (seg := [.int .i64 a2]) (j := 1) hcl36 hcc36 (show 2 ≤ 5 from by decide) (x' := (⟨(rd_T44 t126 t108).f0, a2, (rd_T44 t126 t108).f2, (rd_T44 t126 t108).f3, (rd_T44 t126 t108).f4⟩ : S44)) (k44_mkM _ _ _ (⟨(rd_T44 t126 t108).f0, a2, (rd_T44 t126 t108).f2, (rd_T44 t126 t108).f3, (rd_T44 t126 t108).f4⟩ : S44) ) (fun _ hk => hk); have hx36_1 := hcc36 1 _ rfl; (try simp only [show (k44).sz = 5 from rfl, Nat.mul_one, Nat.add_zero] at hx36_1); have hf36_1 := hfr36 1; (try simp only [show (k44).sz = 5 from rfl, Nat.mul_one, Nat.add_zero] at hf36_1); clear hcl36 hcc36 hfr36 hM36) | ((with_reducible refine gate_store (t := 2) (p := 46) rfl ?_); refine store_event (t := 2) (p := 46) (v := ?vo_w37) (w1 := (w35.setCell ⟨go33, (t108 : Int).toNat * 5 + 1, none⟩ (.int .i64 a2))) ?hg ?ho ?hn ?hr ?_; (case ho => rfl); (case hg => rfl); (case hn => rfl); (case hr => exact zhlgcp); intro w37 hw; have hg : w35.grownBy w37 (some go33) := (by rw [hw]; exact HP36.2); have hp_ : Kd.R k44 44 w37 w.heap.size (fun _ => True) (.slice (some ⟨go33, 0, none⟩) t126.length co33) y129 := (by rw [hw, Ny129.out]; exact HP36.1); clear HP36; have n0_ := aa (blk_grown (g := gb101) (o := .cells #[.int .i64 0, .string (⟨#[]⟩ : ByteArray), .slice none 0 0] 27 (0, 0)) (zkjhpm BK101.out) hg (Kd.R_ne HO128.out BK101.out (by decide))); have n1_ := aa (hp_); have n2_ := aa ((by rw [hw]; exact below_set (HB.out) GB33.out : Below w.heap.size w w37)); clear BK101; clear HO128; clear HB; have BK101 := n0_; have HO128 := n1_; have HB := n2_; clear n0_ n1_ n2_; clear hg hw hp_; have p130 : 0 ≤ (t108 : Int) := of_decide_eq_true zgglam; have q130 : t108 < (y129.length : Int) := (by have h_ : (t108 : Int) < ((t126.length : Int) : Int) := of_decide_eq_true zgglam; first | (have e_ := (Kd.R_reads' HO128.out).1; omega) | simpa only [Ny129.out, List.length_set] using h_); have ql130 : ((t108 : Int) < ((t126.length : Int) : Int)) = True := eq_true (of_decide_eq_true zgglam); obtain ⟨ad130, e130, hx130_0, hx130_1, hx130_2, hx130_3, hx130_4⟩ := at_T44 (Kd.R_reads' HO128.out).2.2 t108 p130 q130; obtain rfl : (⟨go33, 0, none⟩ : Addr) = ad130 := (by injection e130); (first | simp only [add_plain] at hx130_0 | simp only [add_at] at hx130_0 | simp only [Addr.add, Nat.zero_add] at hx130_0 | skip); (first | simp only [add_plain] at hx130_1 | simp only [add_at] at hx130_1 | simp only [Addr.add, Nat.zero_add] at hx130_1 | skip); (first | simp only [add_plain] at hx130_2 | simp only [add_at] at hx130_2 | simp only [Addr.add, Nat.zero_add] at hx130_2 | skip); (first | simp only [add_plain] at hx130_3 | simp only [add_at] at hx130_3 | simp only [Addr.add, Nat.zero_add] at hx130_3 | skip); (first | simp only [add_plain] at hx130_4 | simp only [add_at] at hx130_4 | simp only [Addr.add, Nat.zero_add] at hx130_4 | skip); replace p130 := eq_true p130; replace q130 := eq_true q130; have p34 : 0 ≤ (t108 : Int) := of_decide_eq_true zgglam; have q34 : (t108 : Int) < ((t126.length : Int) : Int) := of_decide_eq_true zgglam; obtain ⟨ce34, hcl34, hM34, hcc34, hfr34⟩ := Kd.R_elem HO128.out z44 (t108 : Int) p34 q34; obtain rfl := k44_openM hM34; have hx34_0 : w37.cell? ⟨go33, (t108 : Int).toNat * 5, none⟩ = some (.string ((rd_T44 y129 t108).f0)) := hcc34 0 _ rfl; have hx34_1 : w37.cell? ⟨go33, (t108 : Int).toNat * 5 + 1, none⟩ = some (.int .i64 ((rd_T44 y129 t108).f1)) := hcc34 1 _ rfl; have hx34_2 : w37.cell? ⟨go33, (t108 : Int).toNat * 5 + 2, none⟩ = some (.int .i64 ((rd_T44 y129 t108).f2)) := hcc34 2 _ rfl; have hx34_3 : w37.cell? ⟨go33, (t108 : Int).toNat * 5 + 3, none⟩ = some (.int .i64 ((rd_T44 y129 t108).f3)) := hcc34 3 _ rfl; have hx34_4 : w37.cell? ⟨go33, (t108 : Int).toNat * 5 + 4, none⟩ = some (.int .i64 ((rd_T44 y129 t108).f4)) := hcc34 4 _ rfl; have hf34_0 : w37.frozen? ⟨go33, (t108 : Int).toNat * 5, none⟩ = false := hfr34 0; have hf34_1 : w37.frozen? ⟨go33, (t108 : Int).toNat * 5 + 1, none⟩ = false := hfr34 1; have hf34_2 : w37.frozen? ⟨go33, (t108 : Int).toNat * 5 + 2, none⟩ = false := hfr34 2; have hf34_3 : w37.frozen? ⟨go33, (t108 : Int).toNat * 5 + 3, none⟩ = false := hfr34 3; have hf34_4 : w37.frozen? ⟨go33, (t108 : Int).toNat * 5 + 4, none⟩ = false := hfr34 4; clear hcl34 hcc34 hfr34 hM34; replace p34 := eq_true p34; replace q34 := eq_true q34; have HX38 := aa (show Kd.R k44 44 w37 w.heap.size (fun _ => True) (.slice (some ⟨go33, 0, none⟩) t126.length co33) y129 from (zcaken HO128.out)); obtain ⟨ce38, hcl38, hM38, hcc38, hfr38⟩ := Kd.R_elem HX38.out z44 (t108 : Int) (of_decide_eq_true zgglam) (by have h_ : (t108 : Int) < ((t126.length : Int) : Int) := of_decide_eq_true zgglam; first | exact h_ | (have e_ := (Kd.R_reads' HO128.out).1; omega) | simpa using h_); obtain rfl := k44_openM hM38; have HP38 := Kd.R_seg HX38.out (t108 : Int) (of_decide_eq_true zgglam) (by have h_ : (t108 : Int) < ((t126.length : Int) : Int) := of_decide_eq_true zgglam; first | exact h_ | (have e_ := (Kd.R_reads' HO128.out).1; omega) | simpa using h_) (seg := [.int .i64 (wrap64 (((rd_T44 y129 t108).f2) + 1))]) (j := 2) hcl38 hcc38 (show 3 ≤ 5 from by decide) (x' := (⟨(rd_T44 y129 t108).f0, (rd_T44 y129 t108).f1, wrap64 (((rd_T44 y129 t108).f2) + 1), (rd_T44 y129 t108).f3, (rd_T44 y129 t108).f4⟩ : S44)) (k44_mkM _ _ _ (⟨(rd_T44 y129 t108).f0, (rd_T44 y129 t108).f1, wrap64 (((rd_T44 y129 t108).f2) + 1), (rd_T44 y129 t108).f3, (rd_T44 y129 t108).f4⟩ : S44) ) (fun _ hk => hk); have hx38_2 := hcc38 2 _ rfl; (try simp only [show (k44).sz = 5 from rfl, Nat.mul_one, Nat.add_zero] at hx38_2); have hf38_2 := hfr38 2; (try simp only [show (k44).sz = 5 from rfl, Nat.mul_one, Nat.add_zero] at hf38_2); clear hcl38 hcc38 hfr38 hM38) | ((with_reducible refine gate_store (t := 2) (p := 54) rfl ?_); refine store_event (t := 2) (p := 54) (v := ?vo_w39) (w1 := (w37.setCell ⟨go33, (t108 : Int).toNat * 5 + 2, none⟩ (.int .i64 (wrap64 (((rd_T44 y129 t108).f2) + 1))))) ?hg ?ho ?hn ?hr ?_; (case ho => rfl); (case hg => rfl); (case hn => rfl); (case hr => exact zhlgcp); intro w39 hw; have hg : w37.grownBy w39 (some go33) := (by rw [hw]; exact HP38.2); have hp_ : Kd.R k44 44 w39 w.heap.size (fun _ => True) (.slice (some ⟨go33, 0, none⟩) t126.length co33) y131 := (by rw [hw, Ny131.out]; exact HP38.1); clear HP38; have n0_ := aa (blk_grown (g := gb101) (o := .cells #[.int .i64 0, .string (⟨#[]⟩ : ByteArray), .slice none 0 0] 27 (0, 0)) (zkjhpm BK101.out) hg (Kd.R_ne HO128.out BK101.out (by decide))); have n1_ := aa (hp_); have n2_ := aa ((by rw [hw]; exact below_set (HB.out) GB33.out : Below w.heap.size w w39)); clear BK101; clear HO128; clear HB; have BK101 := n0_; have HO128 := n1_; have HB := n2_; clear n0_ n1_ n2_; clear hg hw hp_; have hcz40_0 : w39.cell? ⟨gb101, 0, none⟩ = some (.int .i64 0) := (blk_cell BK101.out 0).trans rfl; have hcz40_1 : w39.cell? ⟨gb101, 1, none⟩ = some (.string (⟨#[]⟩ : ByteArray)) := (blk_cell BK101.out 1).trans rfl; have hcz40_2 : w39.cell? ⟨gb101, 2, none⟩ = some (.slice none 0 0) := (blk_cell BK101.out 2).trans rfl; have hfz40_0 := blk_frozen BK101.out 0; have hfz40_1 := blk_frozen BK101.out 1; have hfz40_2 := blk_frozen BK101.out 2))
        refine bodyPost_ret (results_cell_row rfl _ _ gb101 27 #[.int .i64 0, .string (⟨#[]⟩ : ByteArray), .slice (some ⟨go33, 0, none⟩) t126.length co33] (0, 0) _ rfl zkhiid Tryd.underlying27 rfl (by kernel_rfl)) rfl ?_
        exact ⟨_, by first | rfl | (simp [errW_none, errW_some] <;> rfl) | (simp [*, errW_none, errW_some] <;> rfl), by (with_reducible repeat (first | apply Kd.R_alloc | apply Kd.R_drewN | apply Kd.R_drew)); exact Kd.R_mono (Kd.R_far (p := ⟨gb101, 2, none⟩) (Kd.R_far (p := ⟨gb101, 1, none⟩) (Kd.R_far (p := ⟨gb101, 0, none⟩) (Kd.R_types HO128.out BK101.out (by decide)) (fun _ hk => hk.2) (.int .i64 0)) (fun _ hk => hk.2) (.string (⟨#[]⟩ : ByteArray))) (fun _ hk => hk.2) (.slice (some ⟨go33, 0, none⟩) t126.length co33)) (fun _ hk => trivial), by repeat (first | (with_reducible first | exact HB.out | apply below_alloc | apply pw_below_drewN | apply below_drew1 | refine below_set ?_ GE101.out) | exact HB.out)⟩
       rw [if_neg c32] at H
       exact absurd H (by simp)
      rw [if_neg c25] at H
      exact absurd H (by simp)
     rw [if_neg c24] at H
     exact absurd H (by simp)
 replace c6 := Bool.eq_false_iff.mpr c6
 subst c6
 replace H : ((spec_l2Bad.f 3).bind fun bt103 => (some (bt103.1, bt103.2.1, bt103.2.2))) = some (r1, r2, r3) := by rw [if_neg (show ¬ (false = true) by decide)] at H; exact H
 replace H := Option.bind_eq_some_iff.mp H
 obtain ⟨⟨t103, t104, t105⟩, A410, H⟩ := H
 replace H : (some (t103, t104, t105)) = some (r1, r2, r3) := H
 have A41 := aa A410
 clear A410
 simp only [Option.some.injEq, Prod.mk.injEq] at H
 obtain ⟨rfl, rfl, rfl⟩ := H
 go_enter Tryd.func67, Tryd.ntmps67
 go_wp2_with (first | ((with_reducible refine gate_dst (N := 8) rfl ?_); refine box_event ?hg (N := 8) ?hd (cs := #[.int .i64 0, .string (⟨#[]⟩ : ByteArray), .slice none 0 0]) (t := 27) ?hr ?_; (case hd => rfl); (case hg => rfl); (case hr => exact zhlgcp); intro gb101 hg w42 hbox hb; have n0_ := aa (below_step zjjbob hb); have n1_ := aa (hbox); have n2_ := aa ((zkpfjp : w.heap.size ≤ gb101)); have n3_ := aa ((zkpfjp : w.heap.size ≤ gb101)); clear HB; have HB := n0_; have BK101 := n1_; have GW101 := n2_; have GE101 := n3_; clear n0_ n1_ n2_ n3_; clear hb hbox hg) | ((with_reducible refine gate_callee (f := 40) rfl ?_); refine goesL_ (some 12) rfl rfl Tryd.func40 (by kernel_rfl) rfl #[.int .i64 a2] rfl zjnmae ?_; (with_reducible refine (spec_l2Data.calls a2 false _ A5.out).mono ?_); rintro e w' ⟨rfl, ⟨nd, rfl⟩⟩; refine ⟨_, rfl, ?_⟩; (try (rw [drewN_self w42]; generalize hq_ : World.drewN w42 _ = w42; have n0_ : Aside0 (w42.heap[gb101]? = some (.cells #[.int .i64 0, .string (⟨#[]⟩ : ByteArray), .slice none 0 0] 27 (0, 0))) := ⟨by rw [← hq_]; exact (zkjhpm BK101.out)⟩; have n1_ : Aside0 (Below w.heap.size w w42) := ⟨by rw [← hq_]; exact zkmbdh⟩; clear BK101 HB hq_; have BK101 := n0_; have HB := n1_; clear n0_ n1_))) | ((with_reducible refine gate_callee (f := 24) rfl ?_); refine goesL_ (some 14) rfl rfl Tryd.func24 (by kernel_rfl) rfl #[.int .i64 3] rfl zjnmae ?_; (with_reducible refine (spec_l2Bad.calls 3 t103 t104 t105 _ A41.out).mono ?_); rintro e w43 ⟨v106, rfl, ho0, hb⟩; refine ⟨_, rfl, ?_⟩; have HO107 := aa (Kd.R_lower ho0 (below_size zkmbdh)); replace BK101 := aa (blk_below (g := gb101) (o := .cells #[.int .i64 0, .string (⟨#[]⟩ : ByteArray), .slice none 0 0] 27 (0, 0)) (zkjhpm BK101.out) hb); replace HB := aa (below_step zkmbdh hb); (try clear hb); (try clear hk); (try clear hi); (try clear ho0); have hcz44_0 : w43.cell? ⟨gb101, 0, none⟩ = some (.int .i64 0) := (blk_cell BK101.out 0).trans rfl; have hcz44_1 : w43.cell? ⟨gb101, 1, none⟩ = some (.string (⟨#[]⟩ : ByteArray)) := (blk_cell BK101.out 1).trans rfl; have hcz44_2 : w43.cell? ⟨gb101, 2, none⟩ = some (.slice none 0 0) := (blk_cell BK101.out 2).trans rfl; have hfz44_0 := blk_frozen BK101.out 0; have hfz44_1 := blk_frozen BK101.out 1; have hfz44_2 := blk_frozen BK101.out 2; obtain ⟨Ao45, co45, eo45⟩ := Kd.R_slice HO107.out; subst eo45))
 refine bodyPost_ret (results_cell_row rfl _ _ gb101 27 #[.int .i64 t103, .string t104, .slice Ao45 t105.length co45] (0, 0) _ rfl zdmkil Tryd.underlying27 rfl (by kernel_rfl)) rfl ?_
 exact ⟨_, by first | rfl | (simp [errW_none, errW_some] <;> rfl) | (simp [*, errW_none, errW_some] <;> rfl), by (with_reducible repeat (first | apply Kd.R_alloc | apply Kd.R_drewN | apply Kd.R_drew)); exact Kd.R_mono (Kd.R_far (p := ⟨gb101, 2, none⟩) (Kd.R_far (p := ⟨gb101, 1, none⟩) (Kd.R_far (p := ⟨gb101, 0, none⟩) (Kd.R_types HO107.out BK101.out (by decide)) (fun _ hk => hk.2) (.int .i64 t103)) (fun _ hk => hk.2) (.string t104)) (fun _ hk => hk.2) (.slice Ao45 t105.length co45)) (fun _ hk => trivial), by repeat (first | (with_reducible first | exact HB.out | apply below_alloc | apply pw_below_drewN | apply below_drew1 | refine below_set ?_ GE101.out) | exact HB.out)⟩
/-! ### spec_l2Kids: function 80 -/
def spec_l2Kids.l0 : Nat → List (S44) → ByteArray → List ByteArray → Int → Option (List ByteArray)
 | 0, _, _, _, _ => none
 | k + 1, x0, x1, x5, x6 => if x6 < (x0.length : Int) then (if 0 ≤ x6 then (if ((rd_T44 x0 x6).f0).toList = ([47] : List UInt8) then (spec_l2Kids.l0 k x0 x1 x5 (wrap64 (x6 + 1))) else ((spec_l1Parent.f k ((rd_T44 x0 x6).f0)).bind fun t105 => (if t105.toList = x1.toList then ((spec_l1Last.f k ((rd_T44 x0 x6).f0)).bind fun t106 => (if 0 ≤ (wrap64 (t106 + 1)) then (if (wrap64 (t106 + 1)) ≤ (((rd_T44 x0 x6).f0).size : Int) then (if x5.length < 8796093022208 then (spec_l2Kids.l0 k x0 x1 (x5 ++ [((rd_T44 x0 x6).f0).extract ((wrap64 (t106 + 1)) : Int).toNat ((rd_T44 x0 x6).f0).size]) (wrap64 (x6 + 1))) else (none)) else (none)) else (none))) else (spec_l2Kids.l0 k x0 x1 x5 (wrap64 (x6 + 1)))))) else (none)) else (some x5)
def spec_l2Kids.f (k : Nat) (l0 : List (S44)) (a1 : ByteArray) : Option (List ByteArray) := spec_l2Kids.l0 k l0 a1 (([] : List ByteArray)) 0
theorem spec_l2Kids.mono_l : ∀ k, (∀ y0 y1 y2 y3, LeO (spec_l2Kids.l0 k y0 y1 y2 y3) (spec_l2Kids.l0 (k + 1) y0 y1 y2 y3))
 | 0 => fun _ _ _ _ r h => by simp [spec_l2Kids.l0] at h
 | k + 1 => by
  have ih0 := spec_l2Kids.mono_l k
  ·
   intro y0 y1 y2 y3
   unfold spec_l2Kids.l0
   repeat' first
   | (with_reducible exact ih0 _ _ _ _)
   | (with_reducible exact spec_l1Last.mono _ _)
   | (with_reducible exact spec_l1Parent.mono _ _)
   | (with_reducible exact LeO.refl _)
   | (with_reducible exact LeO.none _)
   | (with_reducible refine LeO.ite ?_ ?_)
   | (with_reducible refine LeO.bind ?_ (fun _ => ?_))
theorem spec_l2Kids.mono : ∀ a0 a1 k, LeO (spec_l2Kids.f k a0 a1) (spec_l2Kids.f (k + 1) a0 a1) := by
 intro a0 a1 k
 have ih0 := spec_l2Kids.mono_l k
 unfold spec_l2Kids.f
 repeat' first
   | (with_reducible exact ih0 _ _ _ _)
   | (with_reducible exact spec_l1Last.mono _ _)
   | (with_reducible exact spec_l1Parent.mono _ _)
   | (with_reducible exact LeO.refl _)
   | (with_reducible exact LeO.none _)
   | (with_reducible refine LeO.ite ?_ ?_)
   | (with_reducible refine LeO.bind ?_ (fun _ => ?_))
theorem spec_l2Kids.calls (k : Nat) (A0 : Option Addr) (c0 : Nat) (l0 : List (S44)) (a1 : ByteArray) (r : List ByteArray) (w : World) (hr0 : Kd.C k44 w A0 l0.length l0) (hc0 : l0.length ≤ c0) (h : spec_l2Kids.f k l0 a1 = some r) :
  Calls Tryd.prog 80 #[.slice A0 l0.length c0, .string a1] w fun e w' => ∃ v0_ : Value, e = .returned (v0_) ∧ Kd.R Kd.string 9 w' w.heap.size (fun _ => True) v0_ r ∧ Below w.heap.size w w' := by
 have HR0 := aa hr0
 have HC0 := aa hc0
 clear hr0 hc0
 have HB := aa (Below.refl w.heap.size w)
 have H : (spec_l2Kids.l0 k l0 a1 (([] : List ByteArray)) 0) = some r := h
 clear h
 obtain ⟨y101, hy101⟩ : ∃ y_ : List ByteArray, y_ = (([] : List ByteArray)) := ⟨_, rfl⟩
 replace H : (spec_l2Kids.l0 k l0 a1 y101 0) = some r := by first | (rw [hy101]; with_reducible exact H) | (have H2_ := (Option.bind_some _ _).symm.trans H; rw [hy101]; with_reducible exact H2_) | (have H2_ := (Option.bind_some _ _).symm.trans H; with_reducible exact H2_) | with_reducible exact H | (rw [hy101]; exact H) | exact H
 have Ny101 := aa hy101
 clear hy101
 have H' := aa H
 clear H
 go_enter Tryd.func80, Tryd.ntmps80
 go_wp2_with (first | ((with_reducible refine gate_dst (N := 8) rfl ?_); refine Kd.R_lit Kd.string _ 9 ?hg (N := 8) ?hd (xs := ([] : List ByteArray)) (inner := []) (ok := fun _ => True) (okp := fun _ => True) ?hr ?hp (fun _ hk => hk) trivial (Below.refl _ _) (Nat.le_refl _) (by simp) ?_; (case hd => rfl); (case hg => rfl); (case hr => exact zhlgcp); (case hp => exact (Reps.none _ _)); intro v102 w3 ho4 hb hg_ hnew_; clear hg_ hnew_; (first | rw [← Ny101.out] at ho4 | (simp only [Int.reduceToNat] at ho4; rw [← Ny101.out] at ho4)); have HO103 := aa (Kd.R_lower ho4 (below_size zjjbob)); replace HB := aa (below_step zjjbob hb); clear hb ho4))
 go_loopg [5, 6] k (fun kq v5 v6 w' => ∃ (x5_1 : List ByteArray) (x6_1 : Int), v6 = .int .i64 x6_1 ∧ Aside0 (spec_l2Kids.l0 kq l0 a1 x5_1 x6_1 = some r) ∧ Aside0 (kq ≤ k) ∧ Aside0 (Kd.R Kd.string 9 w' w.heap.size (fun _ => True) v5 x5_1) ∧ Aside0 (Below w.heap.size w w'))
 case atStart => exact ⟨(y101), (0), zagbkp, H', ⟨Nat.le_refl _⟩, ⟨by (with_reducible repeat (first | apply Kd.R_alloc | apply Kd.R_drewN | apply Kd.R_drew)); exact HO103.out⟩, ⟨by repeat (first | (with_reducible first | exact HB.out | apply below_alloc | apply pw_below_drewN | apply below_drew1) | exact HB.out)⟩⟩
 case round =>
  clear H'
  try clear p2
  obtain ⟨x5_1, x6_1, rfl, HA, HK1, HO_5, HB⟩ := hrel
  cases gk with
  | zero => exact absurd HA.out (by simp [spec_l2Kids.l0])
  | succ k1 =>
   have H := HA.out
   clear HA
   simp only [spec_l2Kids.l0] at H
   by_cases c5 : x6_1 < (l0.length : Int)
   ·
    rw [if_pos c5] at H
    have c5b0 : decide (x6_1 < (l0.length : Int)) = true := decide_eq_true c5
    clear c5
    by_cases c6 : 0 ≤ x6_1
    ·
     rw [if_pos c6] at H
     have c6b0 : decide (0 ≤ x6_1) = true := decide_eq_true c6
     clear c6
     by_cases c7 : ((rd_T44 l0 x6_1).f0).toList = ([47] : List UInt8)
     ·
      rw [if_pos c7] at H
      have c7b0 : (((rd_T44 l0 x6_1).f0).toList == ([47] : List UInt8)) = true := beq_iff_eq.mpr c7
      have c7b1 : (((rd_T44 l0 x6_1).f0).toList != ([47] : List UInt8)) = false := bne_eq_false_iff_eq.mpr c7
      clear c7
      have H' := aa H
      clear H
      have p104 : 0 ≤ (x6_1 : Int) := of_decide_eq_true zgglam
      have q104 : x6_1 < (l0.length : Int) := of_decide_eq_true zgglam
      obtain ⟨ad104, e104, hx104_0, hx104_1, hx104_2, hx104_3, hx104_4⟩ := at_T44 HR0.out x6_1 p104 q104
      cases e104
      replace hx104_0 := pb HB.out hx104_0
      replace hx104_1 := pb HB.out hx104_1
      replace hx104_2 := pb HB.out hx104_2
      replace hx104_3 := pb HB.out hx104_3
      replace hx104_4 := pb HB.out hx104_4
      replace p104 := eq_true p104
      replace q104 := eq_true q104
      go_wp2
      go_roundg k1
      case measure => have := HK1.out; omega
      case rel => exact ⟨(x5_1), (wrap64 (x6_1 + 1)), zagbkp, H', ⟨by have := HK1.out; omega⟩, ⟨by (with_reducible repeat (first | apply Kd.R_alloc | apply Kd.R_drewN | apply Kd.R_drew)); exact HO_5.out⟩, ⟨by repeat (first | (with_reducible first | exact HB.out | apply below_alloc | apply pw_below_drewN | apply below_drew1) | exact HB.out)⟩⟩
     rw [if_neg c7] at H
     have c7b0 : (((rd_T44 l0 x6_1).f0).toList == ([47] : List UInt8)) = false := beq_eq_false_iff_ne.mpr c7
     have c7b1 : (((rd_T44 l0 x6_1).f0).toList != ([47] : List UInt8)) = true := bne_iff_ne.mpr c7
     revert H
     refine obs_ fun t105 A8 H => ?_
     by_cases c9 : t105.toList = a1.toList
     ·
      rw [if_pos c9] at H
      have c9b0 : (t105.toList == a1.toList) = true := beq_iff_eq.mpr c9
      have c9b1 : (t105.toList != a1.toList) = false := bne_eq_false_iff_eq.mpr c9
      clear c9
      revert H
      refine obs_ fun t106 A10 H => ?_
      obtain ⟨ji11, hji11⟩ : ∃ j_ : Int, (wrap64 (t106 + 1)) = j_ := ⟨_, rfl⟩
      replace H : (if 0 ≤ (ji11) then (if (ji11) ≤ (((rd_T44 l0 x6_1).f0).size : Int) then (if x5_1.length < 8796093022208 then (spec_l2Kids.l0 k1 l0 a1 (x5_1 ++ [((rd_T44 l0 x6_1).f0).extract ((ji11) : Int).toNat ((rd_T44 l0 x6_1).f0).size]) (wrap64 (x6_1 + 1))) else (none)) else (none)) else (none)) = some r := by first | (rw [hji11] at H; exact H) | (simp only [hji11] at H ⊢; exact H)
      (try rw [hji11] at A8)
      (try rw [hji11] at A10)
      have hji11w : (IntKind.i64.wrap (t106 + 1)) = ji11 := (i64_w _).trans hji11
      by_cases c12 : 0 ≤ (ji11)
      ·
       rw [if_pos c12] at H
       have c12b0 := eq_true c12
       have c12b1 : decide (0 ≤ (ji11)) = true := decide_eq_true c12
       clear c12
       by_cases c13 : (ji11) ≤ (((rd_T44 l0 x6_1).f0).size : Int)
       ·
        rw [if_pos c13] at H
        have c13b0 := eq_true c13
        have c13b1 : decide ((ji11) ≤ (((rd_T44 l0 x6_1).f0).size : Int)) = true := decide_eq_true c13
        clear c13
        by_cases c14 : x5_1.length < 8796093022208
        ·
         rw [if_pos c14] at H
         have LMc14 := aa c14
         clear c14
         obtain ⟨y107, hy107⟩ : ∃ y_ : List ByteArray, y_ = (x5_1 ++ [((rd_T44 l0 x6_1).f0).extract ((ji11) : Int).toNat ((rd_T44 l0 x6_1).f0).size]) := ⟨_, rfl⟩
         replace H : (spec_l2Kids.l0 k1 l0 a1 y107 (wrap64 (x6_1 + 1))) = some r := by first | (rw [hy107]; with_reducible exact H) | (have H2_ := (Option.bind_some _ _).symm.trans H; rw [hy107]; with_reducible exact H2_) | (have H2_ := (Option.bind_some _ _).symm.trans H; with_reducible exact H2_) | with_reducible exact H | (rw [hy107]; exact H) | exact H
         have Ny107 := aa hy107
         clear hy107
         have H' := aa H
         clear H
         have p104 : 0 ≤ (x6_1 : Int) := of_decide_eq_true zgglam
         have q104 : x6_1 < (l0.length : Int) := of_decide_eq_true zgglam
         obtain ⟨ad104, e104, hx104_0, hx104_1, hx104_2, hx104_3, hx104_4⟩ := at_T44 HR0.out x6_1 p104 q104
         cases e104
         replace hx104_0 := pb HB.out hx104_0
         replace hx104_1 := pb HB.out hx104_1
         replace hx104_2 := pb HB.out hx104_2
         replace hx104_3 := pb HB.out hx104_3
         replace hx104_4 := pb HB.out hx104_4
         replace p104 := eq_true p104
         replace q104 := eq_true q104
         go_wp2_with (first | (go_at_call 44; (with_reducible refine (spec_l1Parent.calls k1 ((rd_T44 l0 x6_1).f0) t105 _ A8.out).mono ?_); rintro e w' ⟨rfl, ⟨nd, rfl⟩⟩) | ((with_reducible refine gate_callee (f := 61) rfl ?_); refine goesL_ (some 31) rfl rfl Tryd.func61 (by kernel_rfl) rfl #[.string ((rd_T44 l0 x6_1).f0)] rfl zjnmae ?_; (with_reducible refine (spec_l1Last.calls k1 ((rd_T44 l0 x6_1).f0) t106 _ A10.out).mono ?_); rintro e w' ⟨rfl, ⟨nd, rfl⟩⟩; refine ⟨_, rfl, ?_⟩) | ((with_reducible refine gate_builtin (b := .append) (xs := #[.tmp 28, .tmp 34]) rfl ?_); at_builtin; refine Kd.R_append Kd.string (w0 := w) w.heap.size rfl (.tmp 28) (.tmp 34) 81 9 (.string ⟨#[]⟩) 16 rfl Tryd.underlying81 info9 rfl (by decide) (by omega) u5 x5_1 (((rd_T44 l0 x6_1).f0).extract ((ji11) : Int).toNat ((rd_T44 l0 x6_1).f0).size) [.string (((rd_T44 l0 x6_1).f0).extract ((ji11) : Int).toNat ((rd_T44 l0 x6_1).f0).size)] (fun _ => True) (fun _ => False) rfl rfl ?aP (fun _ hk => hk.elim) ?aF ?aO ?aB ?aS ?aL ?_; (case aP => exact rfl); (case aB => exact zjjbob); (case aF => exact (fun _ _ => trivial)); (case aO => exact (zcaken HO_5.out)); (case aS => exact (below_size zjjbob)); (case aL => have := LMc14.out; omega); intro v108 w15 ho hb hg hat; rw [← Ny107.out] at ho; replace HB := aa (hb); have HO109 := aa (ho); clear HO_5; clear ho hb hg hat))
         go_roundg k1
         case measure => have := HK1.out; omega
         case rel => exact ⟨(y107), (wrap64 (x6_1 + 1)), zagbkp, H', ⟨by have := HK1.out; omega⟩, ⟨by (with_reducible repeat (first | apply Kd.R_alloc | apply Kd.R_drewN | apply Kd.R_drew)); exact HO109.out⟩, ⟨by repeat (first | (with_reducible first | exact HB.out | apply below_alloc | apply pw_below_drewN | apply below_drew1) | exact HB.out)⟩⟩
        rw [if_neg c14] at H
        exact absurd H (by simp)
       rw [if_neg c13] at H
       exact absurd H (by simp)
      rw [if_neg c12] at H
      exact absurd H (by simp)
     rw [if_neg c9] at H
     have c9b0 : (t105.toList == a1.toList) = false := beq_eq_false_iff_ne.mpr c9
     have c9b1 : (t105.toList != a1.toList) = true := bne_iff_ne.mpr c9
     have H' := aa H
     clear H
     have p104 : 0 ≤ (x6_1 : Int) := of_decide_eq_true zgglam
     have q104 : x6_1 < (l0.length : Int) := of_decide_eq_true zgglam
     obtain ⟨ad104, e104, hx104_0, hx104_1, hx104_2, hx104_3, hx104_4⟩ := at_T44 HR0.out x6_1 p104 q104
     cases e104
     replace hx104_0 := pb HB.out hx104_0
     replace hx104_1 := pb HB.out hx104_1
     replace hx104_2 := pb HB.out hx104_2
     replace hx104_3 := pb HB.out hx104_3
     replace hx104_4 := pb HB.out hx104_4
     replace p104 := eq_true p104
     replace q104 := eq_true q104
     go_wp2_with (first | (go_at_call 44; (with_reducible refine (spec_l1Parent.calls k1 ((rd_T44 l0 x6_1).f0) t105 _ A8.out).mono ?_); rintro e w' ⟨rfl, ⟨nd, rfl⟩⟩))
     go_roundg k1
     case measure => have := HK1.out; omega
     case rel => exact ⟨(x5_1), (wrap64 (x6_1 + 1)), zagbkp, H', ⟨by have := HK1.out; omega⟩, ⟨by (with_reducible repeat (first | apply Kd.R_alloc | apply Kd.R_drewN | apply Kd.R_drew)); exact HO_5.out⟩, ⟨by repeat (first | (with_reducible first | exact HB.out | apply below_alloc | apply pw_below_drewN | apply below_drew1) | exact HB.out)⟩⟩
    rw [if_neg c6] at H
    exact absurd H (by simp)
   ·
    rw [if_neg c5] at H
    have c5b0 : decide (x6_1 < (l0.length : Int)) = false := decide_eq_false c5
    clear c5
    obtain rfl := Option.some.inj H
    go_wp2
    go_ret
    exact ⟨_, by first | rfl | (simp [errW_none, errW_some] <;> rfl) | (simp [*, errW_none, errW_some] <;> rfl), by (with_reducible repeat (first | apply Kd.R_alloc | apply Kd.R_drewN | apply Kd.R_drew)); exact HO_5.out, by repeat (first | (with_reducible first | exact HB.out | apply below_alloc | apply pw_below_drewN | apply below_drew1) | exact HB.out)⟩
/-! ### spec_l2Delete: function 68 -/
def spec_l2Delete.j0 : Nat → List (S44) → ByteArray → Int → Bool → Option (Int × ByteArray × (List (S44)))
 | 0, _, _, _, _ => none
 | k + 1, x0, x1, x7, x28 => if x28 = true then ((spec_l2Bad.f 7).bind fun bt114 => (some (bt114.1, bt114.2.1, bt114.2.2))) else ((spec_l2Kids.f k x0 x1).bind fun t119 => (if (t119.length : Int) > 0 then ((spec_l2Bad.f 8).bind fun bt122 => (some (bt122.1, bt122.2.1, bt122.2.2))) else ((some (([] : List (S44)) : List (S44))).bind fun y127 => (if 0 ≤ x7 then (if x7 ≤ (x0.length : Int) then ((some (x0.take (x7 : Int).toNat : List (S44))).bind fun y130 => (if y127.length + y130.length < 2932031007402 then ((some (y127 ++ y130 : List (S44))).bind fun y134 => (if 0 ≤ (wrap64 (x7 + 1)) then (if (wrap64 (x7 + 1)) ≤ (x0.length : Int) then ((some (x0.drop ((wrap64 (x7 + 1)) : Int).toNat : List (S44))).bind fun y137 => (if y134.length + y137.length < 2932031007402 then (some (0, (⟨#[]⟩ : ByteArray), (y134 ++ y137))) else (none))) else (none)) else (none))) else (none))) else (none)) else (none)))))
def spec_l2Delete.f (k : Nat) (l0 : List (S44)) (a1 : ByteArray) (a2 : Int) : Option (Int × ByteArray × (List (S44))) := if a1.toList = ([47] : List UInt8) then ((spec_l2Bad.f 1).bind fun bt102 => (some (bt102.1, bt102.2.1, bt102.2.2))) else ((spec_l2At.f k l0 a1).bind fun t107 => (if t107 < 0 then ((spec_l2Bad.f 4).bind fun bt108 => (some (bt108.1, bt108.2.1, bt108.2.2))) else (if a2 = (-1) then (spec_l2Delete.j0 k l0 a1 t107 false) else (if 0 ≤ t107 then (if t107 < (l0.length : Int) then (spec_l2Delete.j0 k l0 a1 t107 (a2 != ((rd_T44 l0 t107).f2))) else (none)) else (none)))))
theorem spec_l2Delete.mono_l : ∀ k, (∀ y0 y1 y2 y3, LeO (spec_l2Delete.j0 k y0 y1 y2 y3) (spec_l2Delete.j0 (k + 1) y0 y1 y2 y3))
 | 0 => fun _ _ _ _ r h => by simp [spec_l2Delete.j0] at h
 | k + 1 => by
  have ih0 := spec_l2Delete.mono_l k
  ·
   intro y0 y1 y2 y3
   unfold spec_l2Delete.j0
   repeat' first
   | (with_reducible exact ih0 _ _ _ _)
   | (with_reducible exact spec_l2At.mono _ _ _)
   | (with_reducible exact spec_l2Kids.mono _ _ _)
   | (with_reducible exact LeO.refl _)
   | (with_reducible exact LeO.none _)
   | (with_reducible refine LeO.ite ?_ ?_)
   | (with_reducible refine LeO.bind ?_ (fun _ => ?_))
theorem spec_l2Delete.mono : ∀ a0 a1 a2 k, LeO (spec_l2Delete.f k a0 a1 a2) (spec_l2Delete.f (k + 1) a0 a1 a2) := by
 intro a0 a1 a2 k
 have ih0 := spec_l2Delete.mono_l k
 unfold spec_l2Delete.f
 repeat' first
   | (with_reducible exact ih0 _ _ _ _)
   | (with_reducible exact spec_l2At.mono _ _ _)
   | (with_reducible exact spec_l2Kids.mono _ _ _)
   | (with_reducible exact LeO.refl _)
   | (with_reducible exact LeO.none _)
   | (with_reducible refine LeO.ite ?_ ?_)
   | (with_reducible refine LeO.bind ?_ (fun _ => ?_))
theorem spec_l2Delete.calls (k : Nat) (A0 : Option Addr) (c0 : Nat) (l0 : List (S44)) (a1 : ByteArray) (a2 : Int) (r1 : Int) (r2 : ByteArray) (r3 : List (S44)) (w : World) (hr0 : Kd.C k44 w A0 l0.length l0) (hc0 : l0.length ≤ c0) (h : spec_l2Delete.f k l0 a1 a2 = some (r1, r2, r3)) :
  Calls Tryd.prog 68 #[.slice A0 l0.length c0, .string a1, .int .i64 a2] w fun e w' => ∃ v2_ : Value, e = .returned (.agg #[.int .i64 r1, .string r2, v2_]) ∧ Kd.R k44 44 w' w.heap.size (fun _ => True) v2_ r3 ∧ Below w.heap.size w w' := by
 have hu27 := Tryd.underlying27
 have HR0 := aa hr0
 have HC0 := aa hc0
 clear hr0 hc0
 have HB := aa (Below.refl w.heap.size w)
 have H : (if a1.toList = ([47] : List UInt8) then ((spec_l2Bad.f 1).bind fun bt102 => (some (bt102.1, bt102.2.1, bt102.2.2))) else ((spec_l2At.f k l0 a1).bind fun t107 => (if t107 < 0 then ((spec_l2Bad.f 4).bind fun bt108 => (some (bt108.1, bt108.2.1, bt108.2.2))) else (if a2 = (-1) then (spec_l2Delete.j0 k l0 a1 t107 false) else (if 0 ≤ t107 then (if t107 < (l0.length : Int) then (spec_l2Delete.j0 k l0 a1 t107 (a2 != ((rd_T44 l0 t107).f2))) else (none)) else (none)))))) = some (r1, r2, r3) := h
 clear h
 by_cases c4 : a1.toList = ([47] : List UInt8)
 ·
  rw [if_pos c4] at H
  have c4b0 : (a1.toList == ([47] : List UInt8)) = true := beq_iff_eq.mpr c4
  have c4b1 : (a1.toList != ([47] : List UInt8)) = false := bne_eq_false_iff_eq.mpr c4
  clear c4
  replace H := Option.bind_eq_some_iff.mp H
  obtain ⟨⟨t102, t103, t104⟩, A50, H⟩ := H
  replace H : (some (t102, t103, t104)) = some (r1, r2, r3) := H
  have A5 := aa A50
  clear A50
  simp only [Option.some.injEq, Prod.mk.injEq] at H
  obtain ⟨rfl, rfl, rfl⟩ := H
  go_enter Tryd.func68, Tryd.ntmps68
  go_wp2_with (first | ((with_reducible refine gate_dst (N := 6) rfl ?_); refine box_event ?hg (N := 6) ?hd (cs := #[.int .i64 0, .string (⟨#[]⟩ : ByteArray), .slice none 0 0]) (t := 27) ?hr ?_; (case hd => rfl); (case hg => rfl); (case hr => exact zhlgcp); intro gb101 hg w6 hbox hb; have n0_ := aa (below_step zjjbob hb); have n1_ := aa (hbox); have n2_ := aa ((zkpfjp : w.heap.size ≤ gb101)); have n3_ := aa ((zkpfjp : w.heap.size ≤ gb101)); clear HB; have HB := n0_; have BK101 := n1_; have GW101 := n2_; have GE101 := n3_; clear n0_ n1_ n2_ n3_; clear hb hbox hg) | ((with_reducible refine gate_callee (f := 24) rfl ?_); refine goesL_ (some 11) rfl rfl Tryd.func24 (by kernel_rfl) rfl #[.int .i64 1] rfl zjnmae ?_; (with_reducible refine (spec_l2Bad.calls 1 t102 t103 t104 _ A5.out).mono ?_); rintro e w7 ⟨v105, rfl, ho0, hb⟩; refine ⟨_, rfl, ?_⟩; have HO106 := aa (Kd.R_lower ho0 (below_size zkmbdh)); replace BK101 := aa (blk_below (g := gb101) (o := .cells #[.int .i64 0, .string (⟨#[]⟩ : ByteArray), .slice none 0 0] 27 (0, 0)) (zkjhpm BK101.out) hb); replace HB := aa (below_step zkmbdh hb); (try clear hb); (try clear hk); (try clear hi); (try clear ho0); have hcz8_0 : w7.cell? ⟨gb101, 0, none⟩ = some (.int .i64 0) := (blk_cell BK101.out 0).trans rfl; have hcz8_1 : w7.cell? ⟨gb101, 1, none⟩ = some (.string (⟨#[]⟩ : ByteArray)) := (blk_cell BK101.out 1).trans rfl; have hcz8_2 : w7.cell? ⟨gb101, 2, none⟩ = some (.slice none 0 0) := (blk_cell BK101.out 2).trans rfl; have hfz8_0 := blk_frozen BK101.out 0; have hfz8_1 := blk_frozen BK101.out 1; have hfz8_2 := blk_frozen BK101.out 2; obtain ⟨Ao9, co9, eo9⟩ := Kd.R_slice HO106.out; subst eo9))
  refine bodyPost_ret (results_cell_row rfl _ _ gb101 27 #[.int .i64 t102, .string t103, .slice Ao9 t104.length co9] (0, 0) _ rfl (by (with_reducible repeat (first | refine blk_drewN ?_ _ | refine blk_drew ?_ | refine blk_alloc ?_ _)); refine blk_put (cs := #[.int .i64 t102, .string t103, .slice none 0 0]) ?_ 2 _ rfl; (with_reducible repeat (first | refine blk_drewN ?_ _ | refine blk_drew ?_ | refine blk_alloc ?_ _)); refine blk_put (cs := #[.int .i64 t102, .string (⟨#[]⟩ : ByteArray), .slice none 0 0]) ?_ 1 _ rfl; (with_reducible repeat (first | refine blk_drewN ?_ _ | refine blk_drew ?_ | refine blk_alloc ?_ _)); refine blk_put (cs := #[.int .i64 0, .string (⟨#[]⟩ : ByteArray), .slice none 0 0]) ?_ 0 _ rfl; (with_reducible repeat (first | refine blk_drewN ?_ _ | refine blk_drew ?_ | refine blk_alloc ?_ _)); exact BK101.out) Tryd.underlying27 rfl (by kernel_rfl)) rfl ?_
  exact ⟨_, by first | rfl | (simp [errW_none, errW_some] <;> rfl) | (simp [*, errW_none, errW_some] <;> rfl), by (with_reducible repeat (first | apply Kd.R_alloc | apply Kd.R_drewN | apply Kd.R_drew)); exact Kd.R_mono (Kd.R_far (p := ⟨gb101, 2, none⟩) (Kd.R_far (p := ⟨gb101, 1, none⟩) (Kd.R_far (p := ⟨gb101, 0, none⟩) (Kd.R_types HO106.out BK101.out (by decide)) (fun _ hk => hk.2) (.int .i64 t102)) (fun _ hk => hk.2) (.string t103)) (fun _ hk => hk.2) (.slice Ao9 t104.length co9)) (fun _ hk => trivial), by repeat (first | (with_reducible first | exact HB.out | apply below_alloc | apply pw_below_drewN | apply below_drew1 | refine below_set ?_ GE101.out) | exact HB.out)⟩
 rw [if_neg c4] at H
 have c4b0 : (a1.toList == ([47] : List UInt8)) = false := beq_eq_false_iff_ne.mpr c4
 have c4b1 : (a1.toList != ([47] : List UInt8)) = true := bne_iff_ne.mpr c4
 revert H
 refine obs_ fun t107 A10 H => ?_
 by_cases c11 : t107 < 0
 ·
  rw [if_pos c11] at H
  have c11b0 : decide (t107 < 0) = true := decide_eq_true c11
  clear c11
  replace H := Option.bind_eq_some_iff.mp H
  obtain ⟨⟨t108, t109, t110⟩, A120, H⟩ := H
  replace H : (some (t108, t109, t110)) = some (r1, r2, r3) := H
  have A12 := aa A120
  clear A120
  simp only [Option.some.injEq, Prod.mk.injEq] at H
  obtain ⟨rfl, rfl, rfl⟩ := H
  go_enter Tryd.func68, Tryd.ntmps68
  go_wp2_with (first | ((with_reducible refine gate_dst (N := 6) rfl ?_); refine box_event ?hg (N := 6) ?hd (cs := #[.int .i64 0, .string (⟨#[]⟩ : ByteArray), .slice none 0 0]) (t := 27) ?hr ?_; (case hd => rfl); (case hg => rfl); (case hr => exact zhlgcp); intro gb101 hg w13 hbox hb; have n0_ := aa (below_step zjjbob hb); have n1_ := aa (hbox); have n2_ := aa ((zkpfjp : w.heap.size ≤ gb101)); have n3_ := aa ((zkpfjp : w.heap.size ≤ gb101)); clear HB; have HB := n0_; have BK101 := n1_; have GW101 := n2_; have GE101 := n3_; clear n0_ n1_ n2_ n3_; clear hb hbox hg) | ((with_reducible refine gate_callee (f := 43) rfl ?_); refine goesL_ (some 14) rfl rfl Tryd.func43 (by kernel_rfl) rfl #[.slice A0 l0.length c0, .string a1] rfl zjnmae ?_; (with_reducible refine (spec_l2At.calls k _ _ l0 a1 t107 _ ?side1 ?side2 A10.out).mono ?_); (case side1 => exact zfmbgg); (case side2 => exact HC0.out); rintro e w' ⟨rfl, ⟨nd, rfl⟩⟩; refine ⟨_, rfl, ?_⟩; (try (rw [drewN_self w13]; generalize hq_ : World.drewN w13 _ = w13; have n0_ : Aside0 (w13.heap[gb101]? = some (.cells #[.int .i64 0, .string (⟨#[]⟩ : ByteArray), .slice none 0 0] 27 (0, 0))) := ⟨by rw [← hq_]; exact (zkjhpm BK101.out)⟩; have n1_ : Aside0 (Below w.heap.size w w13) := ⟨by rw [← hq_]; exact zkmbdh⟩; clear BK101 HB hq_; have BK101 := n0_; have HB := n1_; clear n0_ n1_))) | ((with_reducible refine gate_callee (f := 24) rfl ?_); refine goesL_ (some 17) rfl rfl Tryd.func24 (by kernel_rfl) rfl #[.int .i64 4] rfl zjnmae ?_; (with_reducible refine (spec_l2Bad.calls 4 t108 t109 t110 _ A12.out).mono ?_); rintro e w14 ⟨v111, rfl, ho0, hb⟩; refine ⟨_, rfl, ?_⟩; have HO112 := aa (Kd.R_lower ho0 (below_size zkmbdh)); replace BK101 := aa (blk_below (g := gb101) (o := .cells #[.int .i64 0, .string (⟨#[]⟩ : ByteArray), .slice none 0 0] 27 (0, 0)) (zkjhpm BK101.out) hb); replace HB := aa (below_step zkmbdh hb); (try clear hb); (try clear hk); (try clear hi); (try clear ho0); have hcz15_0 : w14.cell? ⟨gb101, 0, none⟩ = some (.int .i64 0) := (blk_cell BK101.out 0).trans rfl; have hcz15_1 : w14.cell? ⟨gb101, 1, none⟩ = some (.string (⟨#[]⟩ : ByteArray)) := (blk_cell BK101.out 1).trans rfl; have hcz15_2 : w14.cell? ⟨gb101, 2, none⟩ = some (.slice none 0 0) := (blk_cell BK101.out 2).trans rfl; have hfz15_0 := blk_frozen BK101.out 0; have hfz15_1 := blk_frozen BK101.out 1; have hfz15_2 := blk_frozen BK101.out 2; obtain ⟨Ao16, co16, eo16⟩ := Kd.R_slice HO112.out; subst eo16))
  refine bodyPost_ret (results_cell_row rfl _ _ gb101 27 #[.int .i64 t108, .string t109, .slice Ao16 t110.length co16] (0, 0) _ rfl zmdafi Tryd.underlying27 rfl (by kernel_rfl)) rfl ?_
  exact ⟨_, by first | rfl | (simp [errW_none, errW_some] <;> rfl) | (simp [*, errW_none, errW_some] <;> rfl), by (with_reducible repeat (first | apply Kd.R_alloc | apply Kd.R_drewN | apply Kd.R_drew)); exact Kd.R_mono (Kd.R_far (p := ⟨gb101, 2, none⟩) (Kd.R_far (p := ⟨gb101, 1, none⟩) (Kd.R_far (p := ⟨gb101, 0, none⟩) (Kd.R_types HO112.out BK101.out (by decide)) (fun _ hk => hk.2) (.int .i64 t108)) (fun _ hk => hk.2) (.string t109)) (fun _ hk => hk.2) (.slice Ao16 t110.length co16)) (fun _ hk => trivial), by repeat (first | (with_reducible first | exact HB.out | apply below_alloc | apply pw_below_drewN | apply below_drew1 | refine below_set ?_ GE101.out) | exact HB.out)⟩
 rw [if_neg c11] at H
 have c11b0 : decide (t107 < 0) = false := decide_eq_false c11
 clear c11
 have HC17 := aa H
 clear H
 go_enter Tryd.func68, Tryd.ntmps68
 go_upto_region 6 with (first | ((with_reducible refine gate_dst (N := 6) rfl ?_); refine box_event ?hg (N := 6) ?hd (cs := #[.int .i64 0, .string (⟨#[]⟩ : ByteArray), .slice none 0 0]) (t := 27) ?hr ?_; (case hd => rfl); (case hg => rfl); (case hr => exact zhlgcp); intro gb101 hg w18 hbox hb; have n0_ := aa (below_step zjjbob hb); have n1_ := aa (hbox); have n2_ := aa ((zkpfjp : w.heap.size ≤ gb101)); have n3_ := aa ((zkpfjp : w.heap.size ≤ gb101)); clear HB; have HB := n0_; have BK101 := n1_; have GW101 := n2_; have GE101 := n3_; clear n0_ n1_ n2_ n3_; clear hb hbox hg) | ((with_reducible refine gate_callee (f := 43) rfl ?_); refine goesL_ (some 14) rfl rfl Tryd.func43 (by kernel_rfl) rfl #[.slice A0 l0.length c0, .string a1] rfl zjnmae ?_; (with_reducible refine (spec_l2At.calls k _ _ l0 a1 t107 _ ?side1 ?side2 A10.out).mono ?_); (case side1 => exact zfmbgg); (case side2 => exact HC0.out); rintro e w' ⟨rfl, ⟨nd, rfl⟩⟩; refine ⟨_, rfl, ?_⟩))
 (try simp only [Act.put, List.setIfInBounds_toArray, List.set_cons_zero, List.set_cons_succ])
 go_cut [28] (fun v28 wc => ∃ (kq : Nat) (x28_16 : Bool), v28 = .bool x28_16 ∧ Aside0 (spec_l2Delete.j0 kq l0 a1 t107 x28_16 = some (r1, r2, r3)) ∧ Aside0 (kq ≤ k) ∧ Aside0 (wc.heap[gb101]? = some (.cells #[.int .i64 0, .string (⟨#[]⟩ : ByteArray), (.slice none 0 0)] 27 (0, 0))) ∧ Aside0 (Below w.heap.size w wc))
 case first =>
  have H := HC17.out
  clear HC17
  by_cases c19 : a2 = (-1)
  ·
   rw [if_pos c19] at H
   have c19b0 : (a2 == (-1)) = true := beq_iff_eq.mpr c19
   have c19b1 : (a2 != (-1)) = false := bne_eq_false_iff_eq.mpr c19
   clear c19
   (first | rw [c19b0] | (simp only [i64_w, i32_w]; rw [c19b0]) | (simp only [c19b2, Bool.not_false, Bool.not_true]) | skip)
   have H' := aa H
   clear H
   go_wp2
   go_meet
   case rel => exact ⟨_, (false), zagbkp, H', ⟨by first | omega | exact Nat.le_refl _⟩, ⟨by (with_reducible repeat (first | refine blk_drewN ?_ _ | refine blk_drew ?_ | refine blk_alloc ?_ _)); exact BK101.out⟩, ⟨by repeat (first | (with_reducible first | exact HB.out | apply below_alloc | apply pw_below_drewN | apply below_drew1 | refine below_set ?_ GE101.out) | exact HB.out)⟩⟩
  rw [if_neg c19] at H
  have c19b0 : (a2 == (-1)) = false := beq_eq_false_iff_ne.mpr c19
  have c19b1 : (a2 != (-1)) = true := bne_iff_ne.mpr c19
  (first | rw [c19b0] | (simp only [i64_w, i32_w]; rw [c19b0]) | (simp only [c19b2, Bool.not_false, Bool.not_true]) | skip)
  by_cases c20 : 0 ≤ t107
  ·
   rw [if_pos c20] at H
   have c20b0 : decide (0 ≤ t107) = true := decide_eq_true c20
   clear c20
   by_cases c21 : t107 < (l0.length : Int)
   ·
    rw [if_pos c21] at H
    have c21b0 : decide (t107 < (l0.length : Int)) = true := decide_eq_true c21
    clear c21
    have H' := aa H
    clear H
    have p113 : 0 ≤ (t107 : Int) := of_decide_eq_true zgglam
    have q113 : t107 < (l0.length : Int) := of_decide_eq_true zgglam
    obtain ⟨ad113, e113, hx113_0, hx113_1, hx113_2, hx113_3, hx113_4⟩ := at_T44 HR0.out t107 p113 q113
    cases e113
    replace hx113_0 := pb HB.out hx113_0
    replace hx113_1 := pb HB.out hx113_1
    replace hx113_2 := pb HB.out hx113_2
    replace hx113_3 := pb HB.out hx113_3
    replace hx113_4 := pb HB.out hx113_4
    replace p113 := eq_true p113
    replace q113 := eq_true q113
    go_wp2
    go_meet
    case rel => exact ⟨_, ((a2 != ((rd_T44 l0 t107).f2))), zagbkp, H', ⟨by first | omega | exact Nat.le_refl _⟩, ⟨by (with_reducible repeat (first | refine blk_drewN ?_ _ | refine blk_drew ?_ | refine blk_alloc ?_ _)); exact BK101.out⟩, ⟨by repeat (first | (with_reducible first | exact HB.out | apply below_alloc | apply pw_below_drewN | apply below_drew1 | refine below_set ?_ GE101.out) | exact HB.out)⟩⟩
   rw [if_neg c21] at H
   exact absurd H (by simp)
  rw [if_neg c20] at H
  exact absurd H (by simp)
 case rest =>
  clear HC17
  try clear c1
  try clear p1
  try clear q1
  try clear hx1
  try clear c2
  try clear p2
  try clear c4
  try clear c4b0
  try clear c4b1
  try clear c6
  try clear c11
  try clear c11b0
  try clear p11
  try clear q11
  try clear hx11
  try clear c19
  try clear c19b0
  try clear c19b1
  try clear c19b2
  try clear c20
  try clear c20b0
  try clear c21
  try clear c21b0
  try clear hcz15_0
  try clear hcz15_1
  try clear hcz15_2
  try clear hcz8_0
  try clear hcz8_1
  try clear hcz8_2
  try clear hfz15_0
  try clear hfz15_1
  try clear hfz15_2
  try clear hfz8_0
  try clear hfz8_1
  try clear hfz8_2
  try clear hx113_0
  try clear hx113_1
  try clear hx113_2
  try clear hx113_3
  try clear hx113_4
  try clear p113
  try clear q113
  obtain ⟨kq, x28_16, rfl, HA, HJ16, BK101, HB⟩ := hcut
  cases kq with
  | zero => exact absurd HA.out (by simp [spec_l2Delete.j0])
  | succ kj16 =>
   have H := HA.out
   clear HA
   simp only [spec_l2Delete.j0] at H
   by_cases c22 : x28_16 = true
   ·
    subst c22
    replace H : ((spec_l2Bad.f 7).bind fun bt114 => (some (bt114.1, bt114.2.1, bt114.2.2))) = some (r1, r2, r3) := by rw [if_pos rfl] at H; exact H
    replace H := Option.bind_eq_some_iff.mp H
    obtain ⟨⟨t114, t115, t116⟩, A230, H⟩ := H
    replace H : (some (t114, t115, t116)) = some (r1, r2, r3) := H
    have A23 := aa A230
    clear A230
    simp only [Option.some.injEq, Prod.mk.injEq] at H
    obtain ⟨rfl, rfl, rfl⟩ := H
    go_wp2_with (first | ((with_reducible refine gate_callee (f := 24) rfl ?_); refine goesL_ (some 29) rfl rfl Tryd.func24 (by kernel_rfl) rfl #[.int .i64 7] rfl zjnmae ?_; (with_reducible refine (spec_l2Bad.calls 7 t114 t115 t116 _ A23.out).mono ?_); rintro e w24 ⟨v117, rfl, ho0, hb⟩; refine ⟨_, rfl, ?_⟩; have HO118 := aa (Kd.R_lower ho0 (below_size zkmbdh)); replace BK101 := aa (blk_below (g := gb101) (o := .cells #[.int .i64 0, .string (⟨#[]⟩ : ByteArray), .slice none 0 0] 27 (0, 0)) (zkjhpm BK101.out) hb); replace HB := aa (below_step zkmbdh hb); (try clear hb); (try clear hk); (try clear hi); (try clear ho0); have hcz25_0 : w24.cell? ⟨gb101, 0, none⟩ = some (.int .i64 0) := (blk_cell BK101.out 0).trans rfl; have hcz25_1 : w24.cell? ⟨gb101, 1, none⟩ = some (.string (⟨#[]⟩ : ByteArray)) := (blk_cell BK101.out 1).trans rfl; have hcz25_2 : w24.cell? ⟨gb101, 2, none⟩ = some (.slice none 0 0) := (blk_cell BK101.out 2).trans rfl; have hfz25_0 := blk_frozen BK101.out 0; have hfz25_1 := blk_frozen BK101.out 1; have hfz25_2 := blk_frozen BK101.out 2; obtain ⟨Ao26, co26, eo26⟩ := Kd.R_slice HO118.out; subst eo26))
    refine bodyPost_ret (results_cell_row rfl _ _ gb101 27 #[.int .i64 t114, .string t115, .slice Ao26 t116.length co26] (0, 0) _ rfl (by (with_reducible repeat (first | refine blk_drewN ?_ _ | refine blk_drew ?_ | refine blk_alloc ?_ _)); refine blk_put (cs := #[.int .i64 t114, .string t115, .slice none 0 0]) ?_ 2 _ rfl; (with_reducible repeat (first | refine blk_drewN ?_ _ | refine blk_drew ?_ | refine blk_alloc ?_ _)); refine blk_put (cs := #[.int .i64 t114, .string (⟨#[]⟩ : ByteArray), .slice none 0 0]) ?_ 1 _ rfl; (with_reducible repeat (first | refine blk_drewN ?_ _ | refine blk_drew ?_ | refine blk_alloc ?_ _)); refine blk_put (cs := #[.int .i64 0, .string (⟨#[]⟩ : ByteArray), .slice none 0 0]) ?_ 0 _ rfl; (with_reducible repeat (first | refine blk_drewN ?_ _ | refine blk_drew ?_ | refine blk_alloc ?_ _)); exact BK101.out) Tryd.underlying27 rfl (by kernel_rfl)) rfl ?_
    exact ⟨_, by first | rfl | (simp [errW_none, errW_some] <;> rfl) | (simp [*, errW_none, errW_some] <;> rfl), by (with_reducible repeat (first | apply Kd.R_alloc | apply Kd.R_drewN | apply Kd.R_drew)); exact Kd.R_mono (Kd.R_far (p := ⟨gb101, 2, none⟩) (Kd.R_far (p := ⟨gb101, 1, none⟩) (Kd.R_far (p := ⟨gb101, 0, none⟩) (Kd.R_types HO118.out BK101.out (by decide)) (fun _ hk => hk.2) (.int .i64 t114)) (fun _ hk => hk.2) (.string t115)) (fun _ hk => hk.2) (.slice Ao26 t116.length co26)) (fun _ hk => trivial), by repeat (first | (with_reducible first | exact HB.out | apply below_alloc | apply pw_below_drewN | apply below_drew1 | refine below_set ?_ GE101.out) | exact HB.out)⟩
   ·
    replace c22 := Bool.eq_false_iff.mpr c22
    subst c22
    replace H : ((spec_l2Kids.f kj16 l0 a1).bind fun t119 => (if (t119.length : Int) > 0 then ((spec_l2Bad.f 8).bind fun bt122 => (some (bt122.1, bt122.2.1, bt122.2.2))) else ((some (([] : List (S44)) : List (S44))).bind fun y127 => (if 0 ≤ t107 then (if t107 ≤ (l0.length : Int) then ((some (l0.take (t107 : Int).toNat : List (S44))).bind fun y130 => (if y127.length + y130.length < 2932031007402 then ((some (y127 ++ y130 : List (S44))).bind fun y134 => (if 0 ≤ (wrap64 (t107 + 1)) then (if (wrap64 (t107 + 1)) ≤ (l0.length : Int) then ((some (l0.drop ((wrap64 (t107 + 1)) : Int).toNat : List (S44))).bind fun y137 => (if y134.length + y137.length < 2932031007402 then (some (0, (⟨#[]⟩ : ByteArray), (y134 ++ y137))) else (none))) else (none)) else (none))) else (none))) else (none)) else (none))))) = some (r1, r2, r3) := by rw [if_neg (show ¬ (false = true) by decide)] at H; exact H
    revert H
    refine obs_ fun t119 A27 H => ?_
    by_cases c28 : (t119.length : Int) > 0
    ·
     rw [if_pos c28] at H
     have c28b0 : decide (0 < (t119.length : Int)) = true := decide_eq_true c28
     have c28b1 : decide (0 < t119.length) = true := decide_eq_true (by omega)
     clear c28
     replace H := Option.bind_eq_some_iff.mp H
     obtain ⟨⟨t122, t123, t124⟩, A290, H⟩ := H
     replace H : (some (t122, t123, t124)) = some (r1, r2, r3) := H
     have A29 := aa A290
     clear A290
     simp only [Option.some.injEq, Prod.mk.injEq] at H
     obtain ⟨rfl, rfl, rfl⟩ := H
     go_wp2_with (first | ((with_reducible refine gate_callee (f := 80) rfl ?_); refine goesL_ (some 32) rfl rfl Tryd.func80 (by kernel_rfl) rfl #[.slice A0 l0.length c0, .string a1] rfl zjnmae ?_; (with_reducible refine (spec_l2Kids.calls kj16 _ _ l0 a1 t119 _ ?side1 ?side2 A27.out).mono ?_); (case side1 => exact zfmbgg); (case side2 => exact HC0.out); rintro e w30 ⟨v120, rfl, ho0, hb⟩; refine ⟨_, rfl, ?_⟩; have HO121 := aa (Kd.R_lower ho0 (below_size zkmbdh)); replace BK101 := aa (blk_below (g := gb101) (o := .cells #[.int .i64 0, .string (⟨#[]⟩ : ByteArray), .slice none 0 0] 27 (0, 0)) (zkjhpm BK101.out) hb); replace HB := aa (below_step zkmbdh hb); (try clear hb); (try clear hk); (try clear hi); (try clear ho0); obtain ⟨Ao31, co31, eo31⟩ := Kd.R_slice HO121.out; subst eo31) | ((with_reducible refine gate_callee (f := 24) rfl ?_); refine goesL_ (some 35) rfl rfl Tryd.func24 (by kernel_rfl) rfl #[.int .i64 8] rfl zjnmae ?_; (with_reducible refine (spec_l2Bad.calls 8 t122 t123 t124 _ A29.out).mono ?_); rintro e w32 ⟨v125, rfl, ho0, hb⟩; refine ⟨_, rfl, ?_⟩; replace HO121 := aa (Kd.R_below (zcaken HO121.out) hb); have HO126 := aa (Kd.R_lower ho0 (below_size zkmbdh)); replace BK101 := aa (blk_below (g := gb101) (o := .cells #[.int .i64 0, .string (⟨#[]⟩ : ByteArray), .slice none 0 0] 27 (0, 0)) (zkjhpm BK101.out) hb); replace HB := aa (below_step zkmbdh hb); (try clear hb); (try clear hk); (try clear hi); (try clear ho0); have hcz33_0 : w32.cell? ⟨gb101, 0, none⟩ = some (.int .i64 0) := (blk_cell BK101.out 0).trans rfl; have hcz33_1 : w32.cell? ⟨gb101, 1, none⟩ = some (.string (⟨#[]⟩ : ByteArray)) := (blk_cell BK101.out 1).trans rfl; have hcz33_2 : w32.cell? ⟨gb101, 2, none⟩ = some (.slice none 0 0) := (blk_cell BK101.out 2).trans rfl; have hfz33_0 := blk_frozen BK101.out 0; have hfz33_1 := blk_frozen BK101.out 1; have hfz33_2 := blk_frozen BK101.out 2; obtain ⟨Ao34, co34, eo34⟩ := Kd.R_slice HO126.out; subst eo34))
     refine bodyPost_ret (results_cell_row rfl _ _ gb101 27 #[.int .i64 t122, .string t123, .slice Ao34 t124.length co34] (0, 0) _ rfl zmnjfm Tryd.underlying27 rfl (by kernel_rfl)) rfl ?_
     exact ⟨_, by first | rfl | (simp [errW_none, errW_some] <;> rfl) | (simp [*, errW_none, errW_some] <;> rfl), by (with_reducible repeat (first | apply Kd.R_alloc | apply Kd.R_drewN | apply Kd.R_drew)); exact Kd.R_mono (Kd.R_far (p := ⟨gb101, 2, none⟩) (Kd.R_far (p := ⟨gb101, 1, none⟩) (Kd.R_far (p := ⟨gb101, 0, none⟩) (Kd.R_types HO126.out BK101.out (by decide)) (fun _ hk => hk.2) (.int .i64 t122)) (fun _ hk => hk.2) (.string t123)) (fun _ hk => hk.2) (.slice Ao34 t124.length co34)) (fun _ hk => trivial), by repeat (first | (with_reducible first | exact HB.out | apply below_alloc | apply pw_below_drewN | apply below_drew1 | refine below_set ?_ GE101.out) | exact HB.out)⟩
    rw [if_neg c28] at H
    have c28b0 : decide (0 < (t119.length : Int)) = false := decide_eq_false c28
    have c28b1 : decide (0 < t119.length) = false := decide_eq_false (by omega)
    clear c28
    obtain ⟨y127, hy127⟩ : ∃ y_ : List (S44), y_ = (([] : List (S44))) := ⟨_, rfl⟩
    replace H : (if 0 ≤ t107 then (if t107 ≤ (l0.length : Int) then ((some (l0.take (t107 : Int).toNat : List (S44))).bind fun y130 => (if y127.length + y130.length < 2932031007402 then ((some (y127 ++ y130 : List (S44))).bind fun y134 => (if 0 ≤ (wrap64 (t107 + 1)) then (if (wrap64 (t107 + 1)) ≤ (l0.length : Int) then ((some (l0.drop ((wrap64 (t107 + 1)) : Int).toNat : List (S44))).bind fun y137 => (if y134.length + y137.length < 2932031007402 then (some (0, (⟨#[]⟩ : ByteArray), (y134 ++ y137))) else (none))) else (none)) else (none))) else (none))) else (none)) else (none)) = some (r1, r2, r3) := by first | (rw [hy127]; with_reducible exact H) | (have H2_ := (Option.bind_some _ _).symm.trans H; rw [hy127]; with_reducible exact H2_) | (have H2_ := (Option.bind_some _ _).symm.trans H; with_reducible exact H2_) | with_reducible exact H | (rw [hy127]; exact H) | exact H
    have Ny127 := aa hy127
    clear hy127
    by_cases c35 : 0 ≤ t107
    ·
     rw [if_pos c35] at H
     have c35b0 := eq_true c35
     have c35b1 : decide (0 ≤ t107) = true := decide_eq_true c35
     clear c35
     by_cases c36 : t107 ≤ (l0.length : Int)
     ·
      rw [if_pos c36] at H
      have c36b0 := eq_true c36
      have c36b1 : decide (t107 ≤ (l0.length : Int)) = true := decide_eq_true c36
      clear c36
      obtain ⟨y130, hy130⟩ : ∃ y_ : List (S44), y_ = (l0.take (t107 : Int).toNat) := ⟨_, rfl⟩
      replace H : (if y127.length + y130.length < 2932031007402 then ((some (y127 ++ y130 : List (S44))).bind fun y134 => (if 0 ≤ (wrap64 (t107 + 1)) then (if (wrap64 (t107 + 1)) ≤ (l0.length : Int) then ((some (l0.drop ((wrap64 (t107 + 1)) : Int).toNat : List (S44))).bind fun y137 => (if y134.length + y137.length < 2932031007402 then (some (0, (⟨#[]⟩ : ByteArray), (y134 ++ y137))) else (none))) else (none)) else (none))) else (none)) = some (r1, r2, r3) := by first | (rw [hy130]; with_reducible exact H) | (have H2_ := (Option.bind_some _ _).symm.trans H; rw [hy130]; with_reducible exact H2_) | (have H2_ := (Option.bind_some _ _).symm.trans H; with_reducible exact H2_) | with_reducible exact H | (rw [hy130]; exact H) | exact H
      have Ny130 := aa hy130
      clear hy130
      by_cases c37 : y127.length + y130.length < 2932031007402
      ·
       rw [if_pos c37] at H
       have LMc37 := aa c37
       clear c37
       obtain ⟨y134, hy134⟩ : ∃ y_ : List (S44), y_ = (y127 ++ y130) := ⟨_, rfl⟩
       replace H : (if 0 ≤ (wrap64 (t107 + 1)) then (if (wrap64 (t107 + 1)) ≤ (l0.length : Int) then ((some (l0.drop ((wrap64 (t107 + 1)) : Int).toNat : List (S44))).bind fun y137 => (if y134.length + y137.length < 2932031007402 then (some (0, (⟨#[]⟩ : ByteArray), (y134 ++ y137))) else (none))) else (none)) else (none)) = some (r1, r2, r3) := by first | (rw [hy134]; with_reducible exact H) | (have H2_ := (Option.bind_some _ _).symm.trans H; rw [hy134]; with_reducible exact H2_) | (have H2_ := (Option.bind_some _ _).symm.trans H; with_reducible exact H2_) | with_reducible exact H | (rw [hy134]; exact H) | exact H
       have Ny134 := aa hy134
       clear hy134
       obtain ⟨ji38, hji38⟩ : ∃ j_ : Int, (wrap64 (t107 + 1)) = j_ := ⟨_, rfl⟩
       replace H : (if 0 ≤ (ji38) then (if (ji38) ≤ (l0.length : Int) then ((some (l0.drop ((ji38) : Int).toNat : List (S44))).bind fun y137 => (if y134.length + y137.length < 2932031007402 then (some (0, (⟨#[]⟩ : ByteArray), (y134 ++ y137))) else (none))) else (none)) else (none)) = some (r1, r2, r3) := by first | (rw [hji38] at H; exact H) | (simp only [hji38] at H ⊢; exact H)
       (try rw [hji38] at A27)
       have hji38w : (IntKind.i64.wrap (t107 + 1)) = ji38 := (i64_w _).trans hji38
       by_cases c39 : 0 ≤ (ji38)
       ·
        rw [if_pos c39] at H
        have c39b0 := eq_true c39
        have c39b1 : decide (0 ≤ (ji38)) = true := decide_eq_true c39
        clear c39
        by_cases c40 : (ji38) ≤ (l0.length : Int)
        ·
         rw [if_pos c40] at H
         have c40b0 := eq_true c40
         have c40b1 : decide ((ji38) ≤ (l0.length : Int)) = true := decide_eq_true c40
         clear c40
         obtain ⟨y137, hy137⟩ : ∃ y_ : List (S44), y_ = (l0.drop ((ji38) : Int).toNat) := ⟨_, rfl⟩
         replace H : (if y134.length + y137.length < 2932031007402 then (some (0, (⟨#[]⟩ : ByteArray), (y134 ++ y137))) else (none)) = some (r1, r2, r3) := by first | (rw [hy137]; with_reducible exact H) | (have H2_ := (Option.bind_some _ _).symm.trans H; rw [hy137]; with_reducible exact H2_) | (have H2_ := (Option.bind_some _ _).symm.trans H; with_reducible exact H2_) | with_reducible exact H | (rw [hy137]; exact H) | exact H
         have Ny137 := aa hy137
         clear hy137
         by_cases c41 : y134.length + y137.length < 2932031007402
         ·
          rw [if_pos c41] at H
          have LMc41 := aa c41
          clear c41
          obtain ⟨y141, hy141⟩ : ∃ y_ : List (S44), y_ = (y134 ++ y137) := ⟨_, rfl⟩
          replace H : (some (0, (⟨#[]⟩ : ByteArray), y141)) = some (r1, r2, r3) := by first | (rw [hy141]; with_reducible exact H) | (have H2_ := (Option.bind_some _ _).symm.trans H; rw [hy141]; with_reducible exact H2_) | (have H2_ := (Option.bind_some _ _).symm.trans H; with_reducible exact H2_) | with_reducible exact H | (rw [hy141]; exact H) | exact H
          have Ny141 := aa hy141
          clear hy141
          simp only [Option.some.injEq, Prod.mk.injEq] at H
          obtain ⟨rfl, rfl, rfl⟩ := H
          go_wp2_with (first | ((with_reducible refine gate_callee (f := 80) rfl ?_); refine goesL_ (some 32) rfl rfl Tryd.func80 (by kernel_rfl) rfl #[.slice A0 l0.length c0, .string a1] rfl zjnmae ?_; (with_reducible refine (spec_l2Kids.calls kj16 _ _ l0 a1 t119 _ ?side1 ?side2 A27.out).mono ?_); (case side1 => exact zfmbgg); (case side2 => exact HC0.out); rintro e w42 ⟨v120, rfl, ho0, hb⟩; refine ⟨_, rfl, ?_⟩; have HO121 := aa (Kd.R_lower ho0 (below_size zkmbdh)); replace BK101 := aa (blk_below (g := gb101) (o := .cells #[.int .i64 0, .string (⟨#[]⟩ : ByteArray), .slice none 0 0] 27 (0, 0)) (zkjhpm BK101.out) hb); replace HB := aa (below_step zkmbdh hb); (try clear hb); (try clear hk); (try clear hi); (try clear ho0); obtain ⟨Ao43, co43, eo43⟩ := Kd.R_slice HO121.out; subst eo43) | ((with_reducible refine gate_dst (N := 36) rfl ?_); refine Kd.R_lit k44 _ 44 ?hg (N := 36) ?hd (xs := ([] : List (S44))) (inner := []) (ok := fun _ => True) (okp := fun _ => True) ?hr ?hp (fun _ hk => hk) trivial (Below.refl _ _) (Nat.le_refl _) (by simp) ?_; (case hd => rfl); (case hg => rfl); (case hr => exact zhlgcp); (case hp => exact (Reps.none _ _)); intro v128 w44 ho45 hb hg_ hnew_; clear hg_ hnew_; (first | rw [← Ny127.out] at ho45 | (simp only [Int.reduceToNat] at ho45; rw [← Ny127.out] at ho45)); replace HO121 := aa (Kd.R_below (zcaken HO121.out) hb); have HO129 := aa (Kd.R_lower ho45 (below_size zkmbdh)); replace BK101 := aa (blk_below (g := gb101) (o := .cells #[.int .i64 0, .string (⟨#[]⟩ : ByteArray), .slice none 0 0] 27 (0, 0)) (zkjhpm BK101.out) hb); replace HB := aa (below_step zkmbdh hb); clear hb ho45; have q46 : (t107 : Int) ≤ ((l0.length : Int) : Int) := of_decide_eq_true zgglam; obtain ⟨i046, hi046, _, hsz46, _⟩ := info_parts info44; have hroom46 : l0.length ≤ c0 := HC0.out; have hC46 : Kd.C k44 _ A0 l0.length l0 := HR0.out; have hcut46 := cut_to (P := Tryd.prog) 25 44 .i64 Tryd.underlying25 hi046 A0 l0.length c0 t107 (of_decide_eq_true zgglam) q46 hroom46; have hr46 := Kd.C_take (m := (t107 : Int).toNat) hC46 (by omega); have hy46 : y130.length = (t107 : Int).toNat := (by rw [Ny130.out, List.length_take]; omega); rw [← Ny130.out] at hr46; rw [← hy46] at hcut46; have HR133 := aa hr46; have HC133 := aa (show y130.length ≤ c0 from by omega); clear hr46 hC46 hroom46 hi046 hsz46; have KY46 := aa hy46; clear hy46; replace q46 := eq_true q46) | ((with_reducible refine gate_builtin (b := .append) (xs := #[.tmp 36, .tmp 39]) rfl ?_); at_builtin; refine Kd.R_append_rows k44 (w0 := w) w.heap.size rfl (.tmp 36) (.tmp 39) 25 44 (.agg #[(.string ⟨#[]⟩), (.int .i64 0), (.int .i64 0), (.int .i64 0), (.int .i64 0)]) 48 rfl Tryd.underlying25 info44 rfl (by decide) (by omega) v128 y127 y130 _ _ _ (fun _ => True) (fun _ => False) rfl rfl ?aO ?aR (fun _ _ h => h) (fun _ h => h.elim) ?aF ?aB ?aS ?aL ?_; (case aR => repeat (first | exact (Kd.C_below HR133.out HB.out) | (with_reducible refine Kd.C_alloc ?_ _) | (with_reducible refine Kd.C_drewN ?_ _) | (with_reducible refine Kd.C_drew ?_))); (case aB => exact zkmbdh); (case aF => exact (fun _ _ => trivial)); (case aO => exact (zcaken HO129.out)); (case aS => exact (below_size zkmbdh)); (case aL => have := LMc37.out; omega); intro v135 w47 ho hb hg hat; rw [← Ny134.out] at ho; replace BK101 := aa (blk_grown (g := gb101) (o := .cells #[.int .i64 0, .string (⟨#[]⟩ : ByteArray), .slice none 0 0] 27 (0, 0)) (zkjhpm BK101.out) hg (Kd.R_ne HO129.out BK101.out (by decide))); replace HO121 := aa (Kd.R_over' (zcaken HO121.out) (Kd.R_typed (zcaken HO129.out)) (by decide) hg); replace HB := aa (hb); have HO136 := aa (ho); clear HO129; clear ho hb hg hat; have q48 : ((ji38) : Int) ≤ ((l0.length : Int) : Int) := of_decide_eq_true zgglam; obtain ⟨i048, hi048, _, hsz48, _⟩ := info_parts info44; have hroom48 : l0.length ≤ c0 := HC0.out; have hC48 : Kd.C k44 _ A0 l0.length l0 := HR0.out; have q048 : (0 : Int) ≤ ((ji38) : Int) := of_decide_eq_true zgglam; have hcut48 := cut_from (P := Tryd.prog) 25 44 .i64 Tryd.underlying25 hi048 5 hsz48 A0 l0.length c0 (ji38) q048 q48; have hr48 := Kd.C_drop (m := ((ji38) : Int).toNat) (c := c0) hC48 (by omega) hroom48; obtain ⟨A48, hA48⟩ : ∃ A1, A1 = (if c0 = ((ji38) : Int).toNat then A0 else (A0 : Option Addr).map (·.add (((ji38) : Int).toNat * 5))) := ⟨_, rfl⟩; obtain ⟨c48, hc48⟩ : ∃ c1, c1 = c0 - ((ji38) : Int).toNat := ⟨_, rfl⟩; have hy48 : y137.length = l0.length - ((ji38) : Int).toNat := (by rw [Ny137.out, List.length_drop] <;> omega); rw [show (l0).drop ((ji38) : Int).toNat = y137 from Ny137.out.symm] at hr48; replace hr48 : Kd.C k44 _ A48 y137.length y137 := (by rw [hA48]; exact hr48); rw [← hy48, ← hA48, ← hc48] at hcut48; have HR140 := aa hr48; have HC140 := aa (show y137.length ≤ c48 from by rw [hy48, hc48]; exact Nat.sub_le_sub_right hroom48 _); clear hr48 hC48 hroom48 hi048 hsz48 hc48; have KY48 := aa hy48; have KA48 := aa hA48; clear hy48 hA48; replace q48 := eq_true q48) | ((with_reducible refine gate_builtin (b := .append) (xs := #[.tmp 41, .tmp 45]) rfl ?_); at_builtin; refine Kd.R_append_rows k44 (w0 := w) w.heap.size rfl (.tmp 41) (.tmp 45) 25 44 (.agg #[(.string ⟨#[]⟩), (.int .i64 0), (.int .i64 0), (.int .i64 0), (.int .i64 0)]) 48 rfl Tryd.underlying25 info44 rfl (by decide) (by omega) v135 y134 y137 _ _ _ (fun _ => True) (fun _ => False) rfl rfl ?aO ?aR (fun _ _ h => h) (fun _ h => h.elim) ?aF ?aB ?aS ?aL ?_; (case aR => repeat (first | exact (Kd.C_below HR140.out HB.out) | (with_reducible refine Kd.C_alloc ?_ _) | (with_reducible refine Kd.C_drewN ?_ _) | (with_reducible refine Kd.C_drew ?_))); (case aB => exact zkmbdh); (case aF => exact (fun _ _ => trivial)); (case aO => exact (zcaken HO136.out)); (case aS => exact (below_size zkmbdh)); (case aL => have := LMc41.out; omega); intro v142 w49 ho hb hg hat; rw [← Ny141.out] at ho; replace BK101 := aa (blk_grown (g := gb101) (o := .cells #[.int .i64 0, .string (⟨#[]⟩ : ByteArray), .slice none 0 0] 27 (0, 0)) (zkjhpm BK101.out) hg (Kd.R_ne HO136.out BK101.out (by decide))); replace HO121 := aa (Kd.R_over' (zcaken HO121.out) (Kd.R_typed (zcaken HO136.out)) (by decide) hg); replace HB := aa (hb); have HO143 := aa (ho); clear HO136; clear ho hb hg hat; obtain ⟨Ao50, co50, eo50⟩ := Kd.R_slice HO143.out; subst eo50; have hcz51_0 : w49.cell? ⟨gb101, 0, none⟩ = some (.int .i64 0) := (blk_cell BK101.out 0).trans rfl; have hcz51_1 : w49.cell? ⟨gb101, 1, none⟩ = some (.string (⟨#[]⟩ : ByteArray)) := (blk_cell BK101.out 1).trans rfl; have hcz51_2 : w49.cell? ⟨gb101, 2, none⟩ = some (.slice none 0 0) := (blk_cell BK101.out 2).trans rfl; have hfz51_0 := blk_frozen BK101.out 0; have hfz51_1 := blk_frozen BK101.out 1; have hfz51_2 := blk_frozen BK101.out 2))
          refine bodyPost_ret (results_cell_row rfl _ _ gb101 27 #[.int .i64 0, .string (⟨#[]⟩ : ByteArray), .slice Ao50 y141.length co50] (0, 0) _ rfl zkhiid Tryd.underlying27 rfl (by kernel_rfl)) rfl ?_
          exact ⟨_, by first | rfl | (simp [errW_none, errW_some] <;> rfl) | (simp only [← hji38]; first | rfl | (simp [errW_none, errW_some] <;> rfl)) | (simp [*, errW_none, errW_some] <;> rfl), by (with_reducible repeat (first | apply Kd.R_alloc | apply Kd.R_drewN | apply Kd.R_drew)); exact Kd.R_mono (Kd.R_far (p := ⟨gb101, 2, none⟩) (Kd.R_far (p := ⟨gb101, 1, none⟩) (Kd.R_far (p := ⟨gb101, 0, none⟩) (Kd.R_types HO143.out BK101.out (by decide)) (fun _ hk => hk.2) (.int .i64 0)) (fun _ hk => hk.2) (.string (⟨#[]⟩ : ByteArray))) (fun _ hk => hk.2) (.slice Ao50 y141.length co50)) (fun _ hk => trivial), by repeat (first | (with_reducible first | exact HB.out | apply below_alloc | apply pw_below_drewN | apply below_drew1 | refine below_set ?_ GE101.out) | exact HB.out)⟩
         rw [if_neg c41] at H
         exact absurd H (by simp)
        rw [if_neg c40] at H
        exact absurd H (by simp)
       rw [if_neg c39] at H
       exact absurd H (by simp)
      rw [if_neg c37] at H
      exact absurd H (by simp)
     rw [if_neg c36] at H
     exact absurd H (by simp)
    rw [if_neg c35] at H
    exact absurd H (by simp)
end Go.Proofs.YtajlnffefoeppaaDoor.Qa