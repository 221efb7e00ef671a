import Derived.Test.YtegggpipggniaaaDoorQax0
import Derived.Test.YtegggpipggniaaaDoorQax6
import Derived.Test.YtegggpipggniaaaDoorQax16
import Derived.Test.YtegggpipggniaaaDoorQax19
namespace Go.Proofs.YtegggpipggniaaaDoor.Qa
open Go.RowKit Go.Proofs.YtegggpipggniaaaDoorW.PrintWords Go.Proofs.YtegggpipggniaaaDoorW.PrintLast Go.Proofs.YtegggpipggniaaaDoorW.PrintMore
attribute [local go_sem] max2_int min2_int max_two min_two max_three min_three max_four min_four
set_option linter.unusedVariables false
set_option linter.unusedSimpArgs false
set_option maxHeartbeats 8000000
set_option maxRecDepth 100000

/-! ### impl_TreeFault: function 12 -/
mutual
def impl_TreeFault.l0 : Nat → List (S32) → List (S32) → Int → Int → Option (Int)
 | 0, _, _, _, _ => none
 | k + 1, x0, x18, x19, x20 => if x20 < x19 then (if 0 ≤ x20 then (if x20 < (x18.length : Int) then ((impl_nodeFault.f k ((rd_T32 x18 x20).f0) ((rd_T32 x18 x20).f1) ((rd_T32 x18 x20).f2) ((rd_T32 x18 x20).f3) ((rd_T32 x18 x20).f4)).bind fun t103 => (if t103 = 0 then (if x20 > 0 then (if 0 ≤ (wrap64 (x20 - 1)) then (if (wrap64 (x20 - 1)) < (x0.length : Int) then (if ((Op.bytesLess (((rd_T32 x0 (wrap64 (x20 - 1))).f0).toList) (((rd_T32 x18 x20).f0).toList)) = true) then (impl_TreeFault.l0 k x0 x18 x19 (wrap64 (x20 + 1))) else (some 1)) else (none)) else (none)) else (impl_TreeFault.l0 k x0 x18 x19 (wrap64 (x20 + 1)))) else (some t103))) else (none)) else (none)) else ((impl_find.f k x0 (⟨#[47]⟩ : ByteArray)).bind fun bt105 => (if bt105.2 = true then (if 0 < (x0.length : Int) then (if 1 ≤ (x0.length : Int) then ((some (x0.drop 1 : List (S32))).bind fun y108 => (impl_TreeFault.l1 k x0 (((rd_T32 x0 0).f3) != 0) y108 (y108.length : Int) 0)) else (none)) else (none)) else (some 4)))
def impl_TreeFault.l1 : Nat → List (S32) → Bool → List (S32) → Int → Int → Option (Int)
 | 0, _, _, _, _, _ => none
 | k + 1, x0, x8, x57, x58, x59 => if x59 < x58 then (if 0 ≤ x59 then (if x59 < (x57.length : Int) then ((impl_parted.f k ((rd_T32 x57 x59).f0)).bind fun bt114 => ((impl_find.f k x0 bt114.1).bind fun bt116 => (if bt116.2 = true then (if x8 = true then (impl_TreeFault.l1 k x0 true x57 x58 (wrap64 (x59 + 1))) else (if 0 ≤ bt116.1 then (if bt116.1 < (x0.length : Int) then (impl_TreeFault.l1 k x0 (((rd_T32 x0 bt116.1).f3) != 0) x57 x58 (wrap64 (x59 + 1))) else (none)) else (none))) else (some 4)))) else (none)) else (none)) else (if x8 = true then (some 1) else (some 0))
end
def impl_TreeFault.f (k : Nat) (l0 : List (S32)) : Option (Int) := if (l0.length : Int) > 20 then (some 2) else (impl_TreeFault.l0 k l0 l0 (l0.length : Int) 0)
theorem impl_TreeFault.mono_l : ∀ k, (∀ y0 y1 y2 y3, LeO (impl_TreeFault.l0 k y0 y1 y2 y3) (impl_TreeFault.l0 (k + 1) y0 y1 y2 y3)) ∧ (∀ y0 y1 y2 y3 y4, LeO (impl_TreeFault.l1 k y0 y1 y2 y3 y4) (impl_TreeFault.l1 (k + 1) y0 y1 y2 y3 y4))
 | 0 => ⟨fun _ _ _ _ r h => by simp [impl_TreeFault.l0] at h, fun _ _ _ _ _ r h => by simp [impl_TreeFault.l1] at h⟩
 | k + 1 => by
  obtain ⟨ih0, ih1⟩ := impl_TreeFault.mono_l k
  refine ⟨?_, ?_⟩
  ·
   intro y0 y1 y2 y3
   unfold impl_TreeFault.l0
   with_reducible repeat' first | exact ih0 _ _ _ _ | exact ih1 _ _ _ _ _ | exact impl_find.mono _ _ _ | exact impl_nodeFault.mono _ _ _ _ _ _ | exact impl_parted.mono _ _ | exact LeO.refl _ | exact LeO.none _ | refine LeO.ite ?_ ?_ | refine LeO.bind ?_ (fun _ => ?_)
  ·
   intro y0 y1 y2 y3 y4
   unfold impl_TreeFault.l1
   with_reducible repeat' first | exact ih0 _ _ _ _ | exact ih1 _ _ _ _ _ | exact impl_find.mono _ _ _ | exact impl_nodeFault.mono _ _ _ _ _ _ | exact impl_parted.mono _ _ | exact LeO.refl _ | exact LeO.none _ | refine LeO.ite ?_ ?_ | refine LeO.bind ?_ (fun _ => ?_)
theorem impl_TreeFault.mono : ∀ a0 k, LeO (impl_TreeFault.f k a0) (impl_TreeFault.f (k + 1) a0) := by
 intro a0 k
 obtain ⟨ih0, ih1⟩ := impl_TreeFault.mono_l k
 unfold impl_TreeFault.f
 with_reducible repeat' first | exact ih0 _ _ _ _ | exact ih1 _ _ _ _ _ | exact impl_find.mono _ _ _ | exact impl_nodeFault.mono _ _ _ _ _ _ | exact impl_parted.mono _ _ | exact LeO.refl _ | exact LeO.none _ | refine LeO.ite ?_ ?_ | refine LeO.bind ?_ (fun _ => ?_)
theorem impl_TreeFault.calls (k : Nat) (A0 : Option Addr) (c0 : Nat) (l0 : List (S32)) (r : Int) (w : World) (hr0 : Kd.C k32 w A0 l0.length l0) (hc0 : l0.length ≤ c0) (h : impl_TreeFault.f k l0 = some r) :
  Calls Tryd.prog 12 #[.slice A0 l0.length c0] w fun e w' => e = .returned (.int .i64 r) ∧ Below w.heap.size w w' := by
 have hu32 := Tryd.underlying32
 have HR0 := aa hr0
 have HC0 := aa hc0
 clear hr0 hc0
 have HB := aa (Below.refl w.heap.size w)
 have H : (if (l0.length : Int) > 20 then (some 2) else (impl_TreeFault.l0 k l0 l0 (l0.length : Int) 0)) = some r := h
 clear h
 revert H
 refine itC_ (fun c2 H => ?_) fun c2 H => ?_
 ·
  have c2b0 : decide (20 < (l0.length : Int)) = true := decide_eq_true c2
  have c2b1 : decide (20 < l0.length) = true := decide_eq_true (by omega)
  clear c2
  obtain rfl := Option.some.inj H
  go_enter Tryd.func12, Tryd.ntmps12
  go_wp2
  repeat (go_quiet (fail); try go_wp2)
  go_ret
  exact ⟨zlhpib, zjjbob⟩
 have c2b0 : decide (20 < (l0.length : Int)) = false := decide_eq_false c2
 have c2b1 : decide (20 < l0.length) = false := decide_eq_false (by omega)
 clear c2
 have H' := aa H
 clear H
 go_enter Tryd.func12, Tryd.ntmps12
 go_wp2
 repeat (go_quiet (fail); try go_wp2)
 go_loopg [20] k (fun kq v20 w' => ∃ (x20_1 : Int), v20 = .int .i64 x20_1 ∧ Aside0 (impl_TreeFault.l0 kq l0 l0 (l0.length : Int) x20_1 = some r) ∧ Aside0 (kq ≤ k) ∧ Aside0 (Below w.heap.size w w'))
 case atStart => exact ⟨(0), zagbkp, H', ⟨Nat.le_refl _⟩, ⟨zjjbob⟩⟩
 case round =>
  clear H'
  try clear c2
  try clear c2b0
  try clear c2b1
  try clear p2
  obtain ⟨x20_1, rfl, HA, HK1, HB⟩ := hrel
  cases gk with
  | zero => exact absurd HA.out (by simp [impl_TreeFault.l0])
  | succ k1 =>
   have H := HA.out
   clear HA
   simp only [impl_TreeFault.l0] at H
   revert H
   refine itD_ (fun c3b0 H => ?_) fun c3b0 H => ?_
   ·
    revert H
    refine itH_ fun c4b0 H => ?_
    revert H
    refine itH_ fun c5b0 H => ?_
    revert H
    refine obs_ fun t103 A6 H => ?_
    revert H
    refine itE_ (fun c7b0 c7b1 H => ?_) fun c7b0 c7b1 H => ?_
    ·
     revert H
     refine itC_ (fun c8 H => ?_) fun c8 H => ?_
     ·
      have c8b0 : decide (0 < x20_1) = true := decide_eq_true c8
      clear c8
      obtain ⟨ji9, hji9⟩ : ∃ j_ : Int, (wrap64 (x20_1 - 1)) = j_ := ⟨_, rfl⟩
      first | rw [hji9] at H | simp only [hji9] at H
      (try rw [hji9] at A6)
      have hji9w : (IntKind.i64.wrap (x20_1 - 1)) = ji9 := (i64_w _).trans hji9
      revert H
      refine itH_ fun c10b0 H => ?_
      revert H
      refine itH_ fun c11b0 H => ?_
      revert H
      refine itC_ (fun c12 H => ?_) fun c12 H => ?_
      ·
       have c12b0 : (Op.bytesLess (((rd_T32 l0 (ji9)).f0).toList) (((rd_T32 l0 x20_1).f0).toList)) = true := c12
       have c12le_ : ∀ W_ : World, (binOp .leq 9 (.string ((rd_T32 l0 x20_1).f0)) (.string ((rd_T32 l0 (ji9)).f0))).run Tryd.prog W_ = Result.ok (.bool false) W_ := fun W_ => leq_false c12b0 W_
       clear c12
       have H' := aa H
       clear H
       have p101 : 0 ≤ (x20_1 : Int) := of_decide_eq_true zgglam
       have q101 : x20_1 < (l0.length : Int) := of_decide_eq_true zgglam
       obtain ⟨ad101, e101, hx101_0, hx101_1, hx101_2, hx101_3, hx101_4⟩ := at_T32 HR0.out x20_1 p101 q101
       cases e101
       replace hx101_0 := pb HB.out hx101_0
       replace hx101_1 := pb HB.out hx101_1
       replace hx101_2 := pb HB.out hx101_2
       replace hx101_3 := pb HB.out hx101_3
       replace hx101_4 := pb HB.out hx101_4
       replace p101 := eq_true p101
       replace q101 := eq_true q101
       go_wp2_with (first | (refine be_ 4 #[.string (⟨#[]⟩ : ByteArray), .int .i64 0, .int .i64 0, .int .i64 0, .int .i64 0] 32 ?_; intro gb102 hg w13 hbox hb; have n0_ := aa (below_step zjjbob hb); have n1_ := aa (hbox); have n2_ := aa ((zkpfjp : w.heap.size ≤ gb102)); have n3_ := aa ((zkpfjp : w.heap.size ≤ gb102)); clear HB; have HB := n0_; have BK102 := n1_; have GW102 := n2_; have GE102 := n3_; clear n0_ n1_ n2_ n3_; clear hb hbox hg; obtain ⟨hcz14_0, hcz14_1, hcz14_2, hcz14_3, hcz14_4, hfz14_0, hfz14_1, hfz14_2, hfz14_3, hfz14_4⟩ := blk5_ BK102.out) | (go_at_call 36; (with_reducible refine (impl_nodeFault.calls k1 ((rd_T32 l0 x20_1).f0) ((rd_T32 l0 x20_1).f1) ((rd_T32 l0 x20_1).f2) ((rd_T32 l0 x20_1).f3) ((rd_T32 l0 x20_1).f4) t103 _ A6.out).mono ?_); rintro e w15 ⟨rfl, hb⟩; replace BK102 := aa (blk_below (g := gb102) (o := .cells #[.string ((rd_T32 l0 x20_1).f0), .int .i64 ((rd_T32 l0 x20_1).f1), .int .i64 ((rd_T32 l0 x20_1).f2), .int .i64 ((rd_T32 l0 x20_1).f3), .int .i64 ((rd_T32 l0 x20_1).f4)] 32 (0, 0)) zenkbh hb); replace HB := aa (below_step zndomn hb); (try clear hb hk hi); obtain ⟨hcz16_0, hcz16_1, hcz16_2, hcz16_3, hcz16_4, hfz16_0, hfz16_1, hfz16_2, hfz16_3, hfz16_4⟩ := blk5_ BK102.out; have p104 : 0 ≤ ((ji9) : Int) := of_decide_eq_true zgglam; have q104 : (ji9) < (l0.length : Int) := of_decide_eq_true zgglam; obtain ⟨ad104, e104, hx104_0, hx104_1, hx104_2, hx104_3, hx104_4⟩ := at_T32 HR0.out (ji9) p104 q104; obtain rfl : ad101 = ad104 := (by injection e104); replace hx104_0 := pb HB.out hx104_0; replace hx104_1 := pb HB.out hx104_1; replace hx104_2 := pb HB.out hx104_2; replace hx104_3 := pb HB.out hx104_3; replace hx104_4 := pb HB.out hx104_4; replace p104 := eq_true p104; replace q104 := eq_true q104))
       repeat (go_quiet (fail); try go_wp2)
       go_roundg k1
       case measure => have := HK1.out; omega
       case rel => exact ⟨(wrap64 (x20_1 + 1)), zagbkp, H', ⟨by have := HK1.out; omega⟩, ⟨zndomn⟩⟩
      have c12b0 : (Op.bytesLess (((rd_T32 l0 (ji9)).f0).toList) (((rd_T32 l0 x20_1).f0).toList)) = false := by simpa using c12
      have c12le_ : ∀ W_ : World, (binOp .leq 9 (.string ((rd_T32 l0 x20_1).f0)) (.string ((rd_T32 l0 (ji9)).f0))).run Tryd.prog W_ = Result.ok (.bool true) W_ := fun W_ => leq_true c12b0 W_
      clear c12
      obtain rfl := Option.some.inj H
      have p101 : 0 ≤ (x20_1 : Int) := of_decide_eq_true zgglam
      have q101 : x20_1 < (l0.length : Int) := of_decide_eq_true zgglam
      obtain ⟨ad101, e101, hx101_0, hx101_1, hx101_2, hx101_3, hx101_4⟩ := at_T32 HR0.out x20_1 p101 q101
      cases e101
      replace hx101_0 := pb HB.out hx101_0
      replace hx101_1 := pb HB.out hx101_1
      replace hx101_2 := pb HB.out hx101_2
      replace hx101_3 := pb HB.out hx101_3
      replace hx101_4 := pb HB.out hx101_4
      replace p101 := eq_true p101
      replace q101 := eq_true q101
      go_wp2_with (first | (refine be_ 4 #[.string (⟨#[]⟩ : ByteArray), .int .i64 0, .int .i64 0, .int .i64 0, .int .i64 0] 32 ?_; intro gb102 hg w17 hbox hb; have n0_ := aa (below_step zjjbob hb); have n1_ := aa (hbox); have n2_ := aa ((zkpfjp : w.heap.size ≤ gb102)); have n3_ := aa ((zkpfjp : w.heap.size ≤ gb102)); clear HB; have HB := n0_; have BK102 := n1_; have GW102 := n2_; have GE102 := n3_; clear n0_ n1_ n2_ n3_; clear hb hbox hg; obtain ⟨hcz18_0, hcz18_1, hcz18_2, hcz18_3, hcz18_4, hfz18_0, hfz18_1, hfz18_2, hfz18_3, hfz18_4⟩ := blk5_ BK102.out) | (go_at_call 36; (with_reducible refine (impl_nodeFault.calls k1 ((rd_T32 l0 x20_1).f0) ((rd_T32 l0 x20_1).f1) ((rd_T32 l0 x20_1).f2) ((rd_T32 l0 x20_1).f3) ((rd_T32 l0 x20_1).f4) t103 _ A6.out).mono ?_); rintro e w19 ⟨rfl, hb⟩; replace BK102 := aa (blk_below (g := gb102) (o := .cells #[.string ((rd_T32 l0 x20_1).f0), .int .i64 ((rd_T32 l0 x20_1).f1), .int .i64 ((rd_T32 l0 x20_1).f2), .int .i64 ((rd_T32 l0 x20_1).f3), .int .i64 ((rd_T32 l0 x20_1).f4)] 32 (0, 0)) zenkbh hb); replace HB := aa (below_step zndomn hb); (try clear hb hk hi); obtain ⟨hcz20_0, hcz20_1, hcz20_2, hcz20_3, hcz20_4, hfz20_0, hfz20_1, hfz20_2, hfz20_3, hfz20_4⟩ := blk5_ BK102.out; have p104 : 0 ≤ ((ji9) : Int) := of_decide_eq_true zgglam; have q104 : (ji9) < (l0.length : Int) := of_decide_eq_true zgglam; obtain ⟨ad104, e104, hx104_0, hx104_1, hx104_2, hx104_3, hx104_4⟩ := at_T32 HR0.out (ji9) p104 q104; obtain rfl : ad101 = ad104 := (by injection e104); replace hx104_0 := pb HB.out hx104_0; replace hx104_1 := pb HB.out hx104_1; replace hx104_2 := pb HB.out hx104_2; replace hx104_3 := pb HB.out hx104_3; replace hx104_4 := pb HB.out hx104_4; replace p104 := eq_true p104; replace q104 := eq_true q104))
      repeat (go_quiet (fail); try go_wp2)
      go_ret
      exact ⟨by first | rfl | (simp [errW_none, errW_some] <;> rfl) | (simp only [← hji9]; first | rfl | (simp [errW_none, errW_some] <;> rfl)) | (simp [*, errW_none, errW_some] <;> rfl), zndomn⟩
     have c8b0 : decide (0 < x20_1) = false := decide_eq_false c8
     clear c8
     have H' := aa H
     clear H
     have p101 : 0 ≤ (x20_1 : Int) := of_decide_eq_true zgglam
     have q101 : x20_1 < (l0.length : Int) := of_decide_eq_true zgglam
     obtain ⟨ad101, e101, hx101_0, hx101_1, hx101_2, hx101_3, hx101_4⟩ := at_T32 HR0.out x20_1 p101 q101
     cases e101
     replace hx101_0 := pb HB.out hx101_0
     replace hx101_1 := pb HB.out hx101_1
     replace hx101_2 := pb HB.out hx101_2
     replace hx101_3 := pb HB.out hx101_3
     replace hx101_4 := pb HB.out hx101_4
     replace p101 := eq_true p101
     replace q101 := eq_true q101
     go_wp2_with (first | (refine be_ 4 #[.string (⟨#[]⟩ : ByteArray), .int .i64 0, .int .i64 0, .int .i64 0, .int .i64 0] 32 ?_; intro gb102 hg w21 hbox hb; have n0_ := aa (below_step zjjbob hb); have n1_ := aa (hbox); have n2_ := aa ((zkpfjp : w.heap.size ≤ gb102)); have n3_ := aa ((zkpfjp : w.heap.size ≤ gb102)); clear HB; have HB := n0_; have BK102 := n1_; have GW102 := n2_; have GE102 := n3_; clear n0_ n1_ n2_ n3_; clear hb hbox hg; obtain ⟨hcz22_0, hcz22_1, hcz22_2, hcz22_3, hcz22_4, hfz22_0, hfz22_1, hfz22_2, hfz22_3, hfz22_4⟩ := blk5_ BK102.out) | (go_at_call 36; (with_reducible refine (impl_nodeFault.calls k1 ((rd_T32 l0 x20_1).f0) ((rd_T32 l0 x20_1).f1) ((rd_T32 l0 x20_1).f2) ((rd_T32 l0 x20_1).f3) ((rd_T32 l0 x20_1).f4) t103 _ A6.out).mono ?_); rintro e w23 ⟨rfl, hb⟩; replace BK102 := aa (blk_below (g := gb102) (o := .cells #[.string ((rd_T32 l0 x20_1).f0), .int .i64 ((rd_T32 l0 x20_1).f1), .int .i64 ((rd_T32 l0 x20_1).f2), .int .i64 ((rd_T32 l0 x20_1).f3), .int .i64 ((rd_T32 l0 x20_1).f4)] 32 (0, 0)) zenkbh hb); replace HB := aa (below_step zndomn hb); (try clear hb hk hi)))
     repeat (go_quiet (fail); try go_wp2)
     go_roundg k1
     case measure => have := HK1.out; omega
     case rel => exact ⟨(wrap64 (x20_1 + 1)), zagbkp, H', ⟨by have := HK1.out; omega⟩, ⟨zndomn⟩⟩
    obtain rfl := Option.some.inj H
    have p101 : 0 ≤ (x20_1 : Int) := of_decide_eq_true zgglam
    have q101 : x20_1 < (l0.length : Int) := of_decide_eq_true zgglam
    obtain ⟨ad101, e101, hx101_0, hx101_1, hx101_2, hx101_3, hx101_4⟩ := at_T32 HR0.out x20_1 p101 q101
    cases e101
    replace hx101_0 := pb HB.out hx101_0
    replace hx101_1 := pb HB.out hx101_1
    replace hx101_2 := pb HB.out hx101_2
    replace hx101_3 := pb HB.out hx101_3
    replace hx101_4 := pb HB.out hx101_4
    replace p101 := eq_true p101
    replace q101 := eq_true q101
    go_wp2_with (first | (refine be_ 4 #[.string (⟨#[]⟩ : ByteArray), .int .i64 0, .int .i64 0, .int .i64 0, .int .i64 0] 32 ?_; intro gb102 hg w24 hbox hb; have n0_ := aa (below_step zjjbob hb); have n1_ := aa (hbox); have n2_ := aa ((zkpfjp : w.heap.size ≤ gb102)); have n3_ := aa ((zkpfjp : w.heap.size ≤ gb102)); clear HB; have HB := n0_; have BK102 := n1_; have GW102 := n2_; have GE102 := n3_; clear n0_ n1_ n2_ n3_; clear hb hbox hg; obtain ⟨hcz25_0, hcz25_1, hcz25_2, hcz25_3, hcz25_4, hfz25_0, hfz25_1, hfz25_2, hfz25_3, hfz25_4⟩ := blk5_ BK102.out) | (go_at_call 36; (with_reducible refine (impl_nodeFault.calls k1 ((rd_T32 l0 x20_1).f0) ((rd_T32 l0 x20_1).f1) ((rd_T32 l0 x20_1).f2) ((rd_T32 l0 x20_1).f3) ((rd_T32 l0 x20_1).f4) t103 _ A6.out).mono ?_); rintro e w26 ⟨rfl, hb⟩; replace BK102 := aa (blk_below (g := gb102) (o := .cells #[.string ((rd_T32 l0 x20_1).f0), .int .i64 ((rd_T32 l0 x20_1).f1), .int .i64 ((rd_T32 l0 x20_1).f2), .int .i64 ((rd_T32 l0 x20_1).f3), .int .i64 ((rd_T32 l0 x20_1).f4)] 32 (0, 0)) zenkbh hb); replace HB := aa (below_step zndomn hb); (try clear hb hk hi)))
    repeat (go_quiet (fail); try go_wp2)
    go_ret
    exact ⟨zlhpib, zndomn⟩
   ·
    revert H
    refine ob2_ fun t105 t106 A27 H => ?_
    (try dsimp only at H)
    by_cases c28 : t106 = true
    ·
     subst c28
     rw [if_pos rfl] at H
     revert H
     refine itG_ fun c29 H => ?_
     have c29b0 := decide_eq_true c29
     have c29b1 : decide (0 < l0.length) = true := decide_eq_true (by omega)
     clear c29
     revert H
     refine itG_ fun c30 H => ?_
     have c30b0 := eq_true c30
     have c30b1 := decide_eq_true c30
     clear c30
     revert H
     refine obl_ fun y108 Ny108 H => ?_
     have H' := aa H
     clear H
     go_wp2_with (first | (go_at_call 29; (with_reducible refine (impl_find.calls k1 _ _ l0 (⟨#[47]⟩ : ByteArray) t105 true _ zfmbgg HC0.out A27.out).mono ?_); rintro e w31 ⟨rfl, hb⟩; replace HB := aa (below_step zjjbob hb); (try clear hb hk hi); have p107 : 0 ≤ (0 : Int) := (by omega); have q107 : 0 < (l0.length : Int) := of_decide_eq_true zgglam; obtain ⟨ad107, e107, hx107_0, hx107_1, hx107_2, hx107_3, hx107_4⟩ := at_T32 HR0.out 0 p107 q107; cases e107; have qi107 : (0 < l0.length) = True := eq_true (by omega); (try rw [show ((0 : Int)).toNat = 0 from rfl] at hx107_0); (try rw [show 0 * 5 = 0 from rfl] at hx107_0); (try rw [Addr.add_zero'] at hx107_0); (try rw [show ((0 : Int)).toNat = 0 from rfl] at hx107_1); (try rw [show 0 * 5 = 0 from rfl] at hx107_1); (try rw [Addr.add_zero'] at hx107_1); (try rw [show ((0 : Int)).toNat = 0 from rfl] at hx107_2); (try rw [show 0 * 5 = 0 from rfl] at hx107_2); (try rw [Addr.add_zero'] at hx107_2); (try rw [show ((0 : Int)).toNat = 0 from rfl] at hx107_3); (try rw [show 0 * 5 = 0 from rfl] at hx107_3); (try rw [Addr.add_zero'] at hx107_3); (try rw [show ((0 : Int)).toNat = 0 from rfl] at hx107_4); (try rw [show 0 * 5 = 0 from rfl] at hx107_4); (try rw [Addr.add_zero'] at hx107_4); replace hx107_0 := pb HB.out hx107_0; replace hx107_1 := pb HB.out hx107_1; replace hx107_2 := pb HB.out hx107_2; replace hx107_3 := pb HB.out hx107_3; replace hx107_4 := pb HB.out hx107_4; replace p107 := eq_true p107; replace q107 := eq_true q107; have q32 : (1 : Int) ≤ ((l0.length : Int) : Int) := of_decide_eq_true zgglam; obtain ⟨i032, hi032, _, hsz32, _⟩ := info_parts info32; have hroom32 : l0.length ≤ c0 := HC0.out; have hC32 : Kd.C k32 _ (some ad107) l0.length l0 := HR0.out; have hcut32 := cut_from (P := Tryd.prog) 24 32 .i64 Tryd.underlying24 hi032 5 hsz32 (some ad107) l0.length c0 1 (by omega) q32; have hr32 := Kd.C_drop (m := (1 : Int).toNat) (c := c0) hC32 (by omega) hroom32; obtain ⟨A32, hA32⟩ : ∃ A1, A1 = (if c0 = (1 : Int).toNat then (some ad107) else ((some ad107) : Option Addr).map (·.add ((1 : Int).toNat * 5))) := ⟨_, rfl⟩; obtain ⟨c32, hc32⟩ : ∃ c1, c1 = c0 - (1 : Int).toNat := ⟨_, rfl⟩; have hy32 : y108.length = l0.length - (1 : Int).toNat := (by rw [Ny108.out, List.length_drop] <;> omega); rw [show (l0).drop (1 : Int).toNat = y108 from Ny108.out.symm] at hr32; replace hr32 : Kd.C k32 _ A32 y108.length y108 := (by rw [hA32]; exact hr32); rw [← hy32, ← hA32, ← hc32] at hcut32; have HR111 := aa hr32; have HC111 := aa (show y108.length ≤ c32 from by rw [hy32, hc32]; exact Nat.sub_le_sub_right hroom32 _); clear hr32 hC32 hroom32 hi032 hsz32 hc32; have KY32 := aa hy32; have KA32 := aa hA32; clear hy32 hA32; replace q32 := eq_true q32))
     repeat (go_quiet (fail); try go_wp2)
     go_loopg [8, 59] k1 (fun kq v8 v59 w' => ∃ (x8_2 : Bool) (x59_2 : Int), v8 = .bool x8_2 ∧ v59 = .int .i64 x59_2 ∧ Aside0 (impl_TreeFault.l1 kq l0 x8_2 y108 (y108.length : Int) x59_2 = some r) ∧ Aside0 (kq ≤ k1) ∧ Aside0 (Below w.heap.size w w'))
     case atStart => exact ⟨((((rd_T32 l0 0).f3) != 0)), (0), zagbkp, zagbkp, H', ⟨Nat.le_refl _⟩, ⟨zjjbob⟩⟩
     case round =>
      clear H'
      try clear p1
      try clear q1
      try clear hx1
      try clear qi1
      try clear c2
      try clear c2b0
      try clear c2b1
      try clear p2
      try clear c3b0
      try clear q3
      try clear c4b0
      try clear c5b0
      try clear p6
      try clear c7b0
      try clear c7b1
      try clear c8
      try clear c8b0
      try clear c10b0
      try clear p10
      try clear q10
      try clear hx10
      try clear qi10
      try clear c11b0
      try clear c12
      try clear c12b0
      try clear c28
      try clear c29
      try clear c29b0
      try clear c29b1
      try clear c30
      try clear c30b0
      try clear c30b1
      try clear c32
      try clear q32
      try clear hcz14_0
      try clear hcz14_1
      try clear hcz14_2
      try clear hcz14_3
      try clear hcz14_4
      try clear hcz16_0
      try clear hcz16_1
      try clear hcz16_2
      try clear hcz16_3
      try clear hcz16_4
      try clear hcz18_0
      try clear hcz18_1
      try clear hcz18_2
      try clear hcz18_3
      try clear hcz18_4
      try clear hcz20_0
      try clear hcz20_1
      try clear hcz20_2
      try clear hcz20_3
      try clear hcz20_4
      try clear hcz22_0
      try clear hcz22_1
      try clear hcz22_2
      try clear hcz22_3
      try clear hcz22_4
      try clear hcz25_0
      try clear hcz25_1
      try clear hcz25_2
      try clear hcz25_3
      try clear hcz25_4
      try clear hfz14_0
      try clear hfz14_1
      try clear hfz14_2
      try clear hfz14_3
      try clear hfz14_4
      try clear hfz16_0
      try clear hfz16_1
      try clear hfz16_2
      try clear hfz16_3
      try clear hfz16_4
      try clear hfz18_0
      try clear hfz18_1
      try clear hfz18_2
      try clear hfz18_3
      try clear hfz18_4
      try clear hfz20_0
      try clear hfz20_1
      try clear hfz20_2
      try clear hfz20_3
      try clear hfz20_4
      try clear hfz22_0
      try clear hfz22_1
      try clear hfz22_2
      try clear hfz22_3
      try clear hfz22_4
      try clear hfz25_0
      try clear hfz25_1
      try clear hfz25_2
      try clear hfz25_3
      try clear hfz25_4
      try clear hx101_0
      try clear hx101_1
      try clear hx101_2
      try clear hx101_3
      try clear hx101_4
      try clear hx104_0
      try clear hx104_1
      try clear hx104_2
      try clear hx104_3
      try clear hx104_4
      try clear hx107_0
      try clear hx107_1
      try clear hx107_2
      try clear hx107_3
      try clear hx107_4
      try clear p101
      try clear p104
      try clear p107
      try clear p2
      try clear q101
      try clear q104
      try clear q107
      try clear q32
      obtain ⟨x8_2, x59_2, rfl, rfl, HA, HK2, HB⟩ := hrel
      cases gk with
      | zero => exact absurd HA.out (by simp [impl_TreeFault.l1])
      | succ k2 =>
       have H := HA.out
       clear HA
       simp only [impl_TreeFault.l1] at H
       revert H
       refine itD_ (fun c33b0 H => ?_) fun c33b0 H => ?_
       ·
        revert H
        refine itH_ fun c34b0 H => ?_
        revert H
        refine itH_ fun c35b0 H => ?_
        revert H
        refine ob2_ fun t114 t115 A36 H => ?_
        (try dsimp only at H)
        revert H
        refine ob2_ fun t116 t117 A37 H => ?_
        (try dsimp only at H)
        by_cases c38 : t117 = true
        ·
         subst c38
         rw [if_pos rfl] at H
         by_cases c39 : x8_2 = true
         ·
          subst c39
          rw [if_pos rfl] at H
          have H' := aa H
          clear H
          have p112 : 0 ≤ (x59_2 : Int) := of_decide_eq_true zgglam
          have q112 : x59_2 < (y108.length : Int) := of_decide_eq_true zgglam
          obtain ⟨ad112, e112, hx112_0, hx112_1, hx112_2, hx112_3, hx112_4⟩ := at_T32 HR111.out x59_2 p112 q112
          cases e112
          replace hx112_0 := pb HB.out hx112_0
          replace hx112_1 := pb HB.out hx112_1
          replace hx112_2 := pb HB.out hx112_2
          replace hx112_3 := pb HB.out hx112_3
          replace hx112_4 := pb HB.out hx112_4
          replace p112 := eq_true p112
          replace q112 := eq_true q112
          go_wp2_with (first | (refine be_ 10 #[.string (⟨#[]⟩ : ByteArray), .int .i64 0, .int .i64 0, .int .i64 0, .int .i64 0] 32 ?_; intro gb113 hg w40 hbox hb; have n0_ := aa (below_step zjjbob hb); have n1_ := aa (hbox); have n2_ := aa ((zkpfjp : w.heap.size ≤ gb113)); have n3_ := aa ((zkpfjp : w.heap.size ≤ gb113)); clear HB; have HB := n0_; have BK113 := n1_; have GW113 := n2_; have GE113 := n3_; clear n0_ n1_ n2_ n3_; clear hb hbox hg; obtain ⟨hcz41_0, hcz41_1, hcz41_2, hcz41_3, hcz41_4, hfz41_0, hfz41_1, hfz41_2, hfz41_3, hfz41_4⟩ := blk5_ BK113.out) | (go_at_call 37; (with_reducible refine (impl_parted.calls k2 ((rd_T32 y108 x59_2).f0) t114 t115 _ A36.out).mono ?_); rintro e w42 ⟨rfl, hb⟩; replace BK113 := aa (blk_below (g := gb113) (o := .cells #[.string ((rd_T32 y108 x59_2).f0), .int .i64 ((rd_T32 y108 x59_2).f1), .int .i64 ((rd_T32 y108 x59_2).f2), .int .i64 ((rd_T32 y108 x59_2).f3), .int .i64 ((rd_T32 y108 x59_2).f4)] 32 (0, 0)) zobcea hb); replace HB := aa (below_step zaooek hb); (try clear hb hk hi)) | (go_at_call 29; (with_reducible refine (impl_find.calls k2 _ _ l0 t114 t116 true _ zfmbgg HC0.out A37.out).mono ?_); rintro e w43 ⟨rfl, hb⟩; replace BK113 := aa (bb_ BK113.out hb); replace HB := aa (below_step zaooek hb); (try clear hb hk hi)))
          repeat (go_quiet (fail); try go_wp2)
          go_roundg k2
          case measure => have := HK1.out; have := HK2.out; omega
          case rel => exact ⟨(true), (wrap64 (x59_2 + 1)), zagbkp, zagbkp, H', ⟨by have := HK1.out; have := HK2.out; omega⟩, ⟨zaooek⟩⟩
         replace c39 := Bool.eq_false_iff.mpr c39
         subst c39
         rw [if_neg fT_] at H
         revert H
         refine itH_ fun c44b0 H => ?_
         revert H
         refine itH_ fun c45b0 H => ?_
         have H' := aa H
         clear H
         have p112 : 0 ≤ (x59_2 : Int) := of_decide_eq_true zgglam
         have q112 : x59_2 < (y108.length : Int) := of_decide_eq_true zgglam
         obtain ⟨ad112, e112, hx112_0, hx112_1, hx112_2, hx112_3, hx112_4⟩ := at_T32 HR111.out x59_2 p112 q112
         cases e112
         replace hx112_0 := pb HB.out hx112_0
         replace hx112_1 := pb HB.out hx112_1
         replace hx112_2 := pb HB.out hx112_2
         replace hx112_3 := pb HB.out hx112_3
         replace hx112_4 := pb HB.out hx112_4
         replace p112 := eq_true p112
         replace q112 := eq_true q112
         go_wp2_with (first | (refine be_ 10 #[.string (⟨#[]⟩ : ByteArray), .int .i64 0, .int .i64 0, .int .i64 0, .int .i64 0] 32 ?_; intro gb113 hg w46 hbox hb; have n0_ := aa (below_step zjjbob hb); have n1_ := aa (hbox); have n2_ := aa ((zkpfjp : w.heap.size ≤ gb113)); have n3_ := aa ((zkpfjp : w.heap.size ≤ gb113)); clear HB; have HB := n0_; have BK113 := n1_; have GW113 := n2_; have GE113 := n3_; clear n0_ n1_ n2_ n3_; clear hb hbox hg; obtain ⟨hcz47_0, hcz47_1, hcz47_2, hcz47_3, hcz47_4, hfz47_0, hfz47_1, hfz47_2, hfz47_3, hfz47_4⟩ := blk5_ BK113.out) | (go_at_call 37; (with_reducible refine (impl_parted.calls k2 ((rd_T32 y108 x59_2).f0) t114 t115 _ A36.out).mono ?_); rintro e w48 ⟨rfl, hb⟩; replace BK113 := aa (blk_below (g := gb113) (o := .cells #[.string ((rd_T32 y108 x59_2).f0), .int .i64 ((rd_T32 y108 x59_2).f1), .int .i64 ((rd_T32 y108 x59_2).f2), .int .i64 ((rd_T32 y108 x59_2).f3), .int .i64 ((rd_T32 y108 x59_2).f4)] 32 (0, 0)) zobcea hb); replace HB := aa (below_step zaooek hb); (try clear hb hk hi)) | (go_at_call 29; (with_reducible refine (impl_find.calls k2 _ _ l0 t114 t116 true _ zfmbgg HC0.out A37.out).mono ?_); rintro e w49 ⟨rfl, hb⟩; replace BK113 := aa (bb_ BK113.out hb); replace HB := aa (below_step zaooek hb); (try clear hb hk hi); have p118 : 0 ≤ (t116 : Int) := of_decide_eq_true zgglam; have q118 : t116 < (l0.length : Int) := of_decide_eq_true zgglam; obtain ⟨ad118, e118, hx118_0, hx118_1, hx118_2, hx118_3, hx118_4⟩ := at_T32 HR0.out t116 p118 q118; obtain rfl : ad107 = ad118 := (by injection e118); replace hx118_0 := pb HB.out hx118_0; replace hx118_1 := pb HB.out hx118_1; replace hx118_2 := pb HB.out hx118_2; replace hx118_3 := pb HB.out hx118_3; replace hx118_4 := pb HB.out hx118_4; replace p118 := eq_true p118; replace q118 := eq_true q118))
         repeat (go_quiet (fail); try go_wp2)
         go_roundg k2
         case measure => have := HK1.out; have := HK2.out; omega
         case rel => exact ⟨((((rd_T32 l0 t116).f3) != 0)), (wrap64 (x59_2 + 1)), zagbkp, zagbkp, H', ⟨by have := HK1.out; have := HK2.out; omega⟩, ⟨zaooek⟩⟩
        replace c38 := Bool.eq_false_iff.mpr c38
        subst c38
        rw [if_neg fT_] at H
        obtain rfl := Option.some.inj H
        have p112 : 0 ≤ (x59_2 : Int) := of_decide_eq_true zgglam
        have q112 : x59_2 < (y108.length : Int) := of_decide_eq_true zgglam
        obtain ⟨ad112, e112, hx112_0, hx112_1, hx112_2, hx112_3, hx112_4⟩ := at_T32 HR111.out x59_2 p112 q112
        cases e112
        replace hx112_0 := pb HB.out hx112_0
        replace hx112_1 := pb HB.out hx112_1
        replace hx112_2 := pb HB.out hx112_2
        replace hx112_3 := pb HB.out hx112_3
        replace hx112_4 := pb HB.out hx112_4
        replace p112 := eq_true p112
        replace q112 := eq_true q112
        go_wp2_with (first | (refine be_ 10 #[.string (⟨#[]⟩ : ByteArray), .int .i64 0, .int .i64 0, .int .i64 0, .int .i64 0] 32 ?_; intro gb113 hg w50 hbox hb; have n0_ := aa (below_step zjjbob hb); have n1_ := aa (hbox); have n2_ := aa ((zkpfjp : w.heap.size ≤ gb113)); have n3_ := aa ((zkpfjp : w.heap.size ≤ gb113)); clear HB; have HB := n0_; have BK113 := n1_; have GW113 := n2_; have GE113 := n3_; clear n0_ n1_ n2_ n3_; clear hb hbox hg; obtain ⟨hcz51_0, hcz51_1, hcz51_2, hcz51_3, hcz51_4, hfz51_0, hfz51_1, hfz51_2, hfz51_3, hfz51_4⟩ := blk5_ BK113.out) | (go_at_call 37; (with_reducible refine (impl_parted.calls k2 ((rd_T32 y108 x59_2).f0) t114 t115 _ A36.out).mono ?_); rintro e w52 ⟨rfl, hb⟩; replace BK113 := aa (blk_below (g := gb113) (o := .cells #[.string ((rd_T32 y108 x59_2).f0), .int .i64 ((rd_T32 y108 x59_2).f1), .int .i64 ((rd_T32 y108 x59_2).f2), .int .i64 ((rd_T32 y108 x59_2).f3), .int .i64 ((rd_T32 y108 x59_2).f4)] 32 (0, 0)) zobcea hb); replace HB := aa (below_step zaooek hb); (try clear hb hk hi)) | (go_at_call 29; (with_reducible refine (impl_find.calls k2 _ _ l0 t114 t116 false _ zfmbgg HC0.out A37.out).mono ?_); rintro e w53 ⟨rfl, hb⟩; replace BK113 := aa (bb_ BK113.out hb); replace HB := aa (below_step zaooek hb); (try clear hb hk hi)))
        repeat (go_quiet (fail); try go_wp2)
        go_ret
        exact ⟨zlhpib, zaooek⟩
       ·
        by_cases c54 : x8_2 = true
        ·
         subst c54
         rw [if_pos rfl] at H
         obtain rfl := Option.some.inj H
         go_wp2
         repeat (go_quiet (fail); try go_wp2)
         go_ret
         exact ⟨zlhpib, zjjbob⟩
        replace c54 := Bool.eq_false_iff.mpr c54
        subst c54
        rw [if_neg fT_] at H
        obtain rfl := Option.some.inj H
        go_wp2
        repeat (go_quiet (fail); try go_wp2)
        go_ret
        exact ⟨zlhpib, zjjbob⟩
    replace c28 := Bool.eq_false_iff.mpr c28
    subst c28
    rw [if_neg fT_] at H
    obtain rfl := Option.some.inj H
    go_wp2_with (first | (go_at_call 29; (with_reducible refine (impl_find.calls k1 _ _ l0 (⟨#[47]⟩ : ByteArray) t105 false _ zfmbgg HC0.out A27.out).mono ?_); rintro e w55 ⟨rfl, hb⟩; replace HB := aa (below_step zjjbob hb); (try clear hb hk hi)))
    repeat (go_quiet (fail); try go_wp2)
    go_ret
    exact ⟨zlhpib, zjjbob⟩

end Go.Proofs.YtegggpipggniaaaDoor.Qa
