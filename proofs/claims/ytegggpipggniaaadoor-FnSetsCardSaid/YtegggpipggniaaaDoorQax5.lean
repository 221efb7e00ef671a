import Derived.Test.YtegggpipggniaaaDoorQax0
import Derived.Test.YtegggpipggniaaaDoorQax4
namespace Go.Proofs.YtegggpipggniaaaDoor.Qa
open Go.RowKit Go.Proofs.YtegggpipggniaaaDoorW.PrintWords Go.Proofs.YtegggpipggniaaaDoorW.PrintLast Go.Proofs.YtegggpipggniaaaDoorW.PrintMore
attribute [local go_sem] max2_int min2_int max_two min_two max_three min_three max_four min_four
set_option linter.unusedVariables false
set_option linter.unusedSimpArgs false
set_option maxHeartbeats 8000000
set_option maxRecDepth 100000

/-! ### slices_BinarySearchFunc_impl_Znode_impl_Znode_string: function 59 -/
def slices_BinarySearchFunc_impl_Znode_impl_Znode_string.l0 : Nat → List (S32) → ByteArray → Int → Int → Int → Option (Int × Bool)
 | 0, _, _, _, _, _ => none
 | k + 1, x0, x1, x8, x9, x10 => if x9 < x10 then (if 0 ≤ (wrap64 ((IntKind.u64.wrap (wrap64 (x9 + x10))) / 2)) then (if (wrap64 ((IntKind.u64.wrap (wrap64 (x9 + x10))) / 2)) < (x0.length : Int) then ((impl_pathOrder.f ((rd_T32 x0 (wrap64 ((IntKind.u64.wrap (wrap64 (x9 + x10))) / 2))).f0) ((rd_T32 x0 (wrap64 ((IntKind.u64.wrap (wrap64 (x9 + x10))) / 2))).f1) ((rd_T32 x0 (wrap64 ((IntKind.u64.wrap (wrap64 (x9 + x10))) / 2))).f2) ((rd_T32 x0 (wrap64 ((IntKind.u64.wrap (wrap64 (x9 + x10))) / 2))).f3) ((rd_T32 x0 (wrap64 ((IntKind.u64.wrap (wrap64 (x9 + x10))) / 2))).f4) x1).bind fun t102 => (if t102 < 0 then (slices_BinarySearchFunc_impl_Znode_impl_Znode_string.l0 k x0 x1 x8 (wrap64 ((wrap64 ((IntKind.u64.wrap (wrap64 (x9 + x10))) / 2)) + 1)) x10) else (slices_BinarySearchFunc_impl_Znode_impl_Znode_string.l0 k x0 x1 x8 x9 (wrap64 ((IntKind.u64.wrap (wrap64 (x9 + x10))) / 2))))) else (none)) else (none)) else (if x9 < x8 then (if 0 ≤ x9 then (if x9 < (x0.length : Int) then ((impl_pathOrder.f ((rd_T32 x0 x9).f0) ((rd_T32 x0 x9).f1) ((rd_T32 x0 x9).f2) ((rd_T32 x0 x9).f3) ((rd_T32 x0 x9).f4) x1).bind fun t104 => (some (x9, (t104 == 0)))) else (none)) else (none)) else (some (x9, false)))
def slices_BinarySearchFunc_impl_Znode_impl_Znode_string.f (k : Nat) (l0 : List (S32)) (a1 : ByteArray)  : Option (Int × Bool) := slices_BinarySearchFunc_impl_Znode_impl_Znode_string.l0 k l0 a1 (l0.length : Int) 0 (l0.length : Int)
theorem slices_BinarySearchFunc_impl_Znode_impl_Znode_string.mono_l : ∀ k, (∀ y0 y1 y2 y3 y4, LeO (slices_BinarySearchFunc_impl_Znode_impl_Znode_string.l0 k y0 y1 y2 y3 y4) (slices_BinarySearchFunc_impl_Znode_impl_Znode_string.l0 (k + 1) y0 y1 y2 y3 y4))
 | 0 => fun _ _ _ _ _ r h => by simp [slices_BinarySearchFunc_impl_Znode_impl_Znode_string.l0] at h
 | k + 1 => by
  have ih0 := slices_BinarySearchFunc_impl_Znode_impl_Znode_string.mono_l k
  ·
   intro y0 y1 y2 y3 y4
   unfold slices_BinarySearchFunc_impl_Znode_impl_Znode_string.l0
   with_reducible repeat' first | exact ih0 _ _ _ _ _ | exact LeO.refl _ | exact LeO.none _ | refine LeO.ite ?_ ?_ | refine LeO.bind ?_ (fun _ => ?_)
theorem slices_BinarySearchFunc_impl_Znode_impl_Znode_string.mono : ∀ a0 a1 k, LeO (slices_BinarySearchFunc_impl_Znode_impl_Znode_string.f k a0 a1) (slices_BinarySearchFunc_impl_Znode_impl_Znode_string.f (k + 1) a0 a1) := by
 intro a0 a1 k
 have ih0 := slices_BinarySearchFunc_impl_Znode_impl_Znode_string.mono_l k
 unfold slices_BinarySearchFunc_impl_Znode_impl_Znode_string.f
 with_reducible repeat' first | exact ih0 _ _ _ _ _ | exact LeO.refl _ | exact LeO.none _ | refine LeO.ite ?_ ?_ | refine LeO.bind ?_ (fun _ => ?_)
theorem slices_BinarySearchFunc_impl_Znode_impl_Znode_string.calls (k : Nat) (A0 : Option Addr) (c0 : Nat) (l0 : List (S32)) (a1 : ByteArray)  (r1 : Int) (r2 : Bool) (w : World) (hr0 : Kd.C k32 w A0 l0.length l0) (hc0 : l0.length ≤ c0) (h : slices_BinarySearchFunc_impl_Znode_impl_Znode_string.f k l0 a1 = some (r1, r2)) :
  Calls Tryd.prog 59 #[.slice A0 l0.length c0, .string a1, .func (.func 60) #[] #[]] w fun e w' => e = .returned (.tuple #[.int .i64 r1, .bool r2]) ∧ Below w.heap.size w w' := by
 have hu32 := Tryd.underlying32
 have HR0 := aa hr0
 have HC0 := aa hc0
 clear hr0 hc0
 have HB := aa (Below.refl w.heap.size w)
 have H : (slices_BinarySearchFunc_impl_Znode_impl_Znode_string.l0 k l0 a1 (l0.length : Int) 0 (l0.length : Int)) = some (r1, r2) := h
 clear h
 have H' := aa H
 clear H
 go_enter Tryd.func59, Tryd.ntmps59
 go_wp2
 go_loopg [9, 10] k (fun kq v9 v10 w' => ∃ (x9_1 : Int) (x10_1 : Int), v9 = .int .i64 x9_1 ∧ v10 = .int .i64 x10_1 ∧ Aside0 (slices_BinarySearchFunc_impl_Znode_impl_Znode_string.l0 kq l0 a1 (l0.length : Int) x9_1 x10_1 = some (r1, r2)) ∧ Aside0 (kq ≤ k) ∧ Aside0 (Below w.heap.size w w'))
 case atStart => exact ⟨(0), ((l0.length : Int)), zagbkp, zagbkp, H', ⟨Nat.le_refl _⟩, ⟨zjjbob⟩⟩
 case round =>
  clear H'
  try clear p2
  obtain ⟨x9_1, x10_1, rfl, rfl, HA, HK1, HB⟩ := hrel
  cases gk with
  | zero => exact absurd HA.out (by simp [slices_BinarySearchFunc_impl_Znode_impl_Znode_string.l0])
  | succ k1 =>
   have H := HA.out
   clear HA
   simp only [slices_BinarySearchFunc_impl_Znode_impl_Znode_string.l0] at H
   revert H
   refine itD_ (fun c4b0 H => ?_) fun c4b0 H => ?_
   ·
    obtain ⟨ji5, hji5⟩ : ∃ j_ : Int, (wrap64 ((IntKind.u64.wrap (wrap64 (x9_1 + x10_1))) / 2)) = j_ := ⟨_, rfl⟩
    first | rw [hji5] at H | simp only [hji5] at H
    have hji5w : (IntKind.i64.wrap ((IntKind.u64.wrap (wrap64 (x9_1 + x10_1))) / 2)) = ji5 := (i64_w _).trans hji5
    revert H
    refine itH_ fun c6b0 H => ?_
    revert H
    refine itH_ fun c7b0 H => ?_
    revert H
    refine obs_ fun t102 A8 H => ?_
    revert H
    refine itD_ (fun c9b0 H => ?_) fun c9b0 H => ?_
    ·
     have H' := aa H
     clear H
     have p101 : 0 ≤ ((ji5) : Int) := of_decide_eq_true zgglam
     have q101 : (ji5) < (l0.length : Int) := of_decide_eq_true zgglam
     obtain ⟨ad101, e101, hx101_0, hx101_1, hx101_2, hx101_3, hx101_4⟩ := at_T32 HR0.out (ji5) p101 q101
     cases e101
     replace hx101_0 := pb HB.out hx101_0
     replace hx101_1 := pb HB.out hx101_1
     replace hx101_2 := pb HB.out hx101_2
     replace hx101_3 := pb HB.out hx101_3
     replace hx101_4 := pb HB.out hx101_4
     replace p101 := eq_true p101
     replace q101 := eq_true q101
     go_wp2_with (first | (go_at_call 60; (with_reducible refine (impl_pathOrder.calls ((rd_T32 l0 (ji5)).f0) ((rd_T32 l0 (ji5)).f1) ((rd_T32 l0 (ji5)).f2) ((rd_T32 l0 (ji5)).f3) ((rd_T32 l0 (ji5)).f4) a1 t102 _ A8.out).mono ?_); rintro e w10 ⟨rfl, hb⟩; replace HB := aa (below_step zjjbob hb); (try clear hb hk hi)))
     go_roundg k1
     case measure => have := HK1.out; omega
     case rel => exact ⟨(wrap64 ((ji5) + 1)), (x10_1), zjjema, zagbkp, H', ⟨by have := HK1.out; omega⟩, ⟨zjjbob⟩⟩
    have H' := aa H
    clear H
    have p101 : 0 ≤ ((ji5) : Int) := of_decide_eq_true zgglam
    have q101 : (ji5) < (l0.length : Int) := of_decide_eq_true zgglam
    obtain ⟨ad101, e101, hx101_0, hx101_1, hx101_2, hx101_3, hx101_4⟩ := at_T32 HR0.out (ji5) p101 q101
    cases e101
    replace hx101_0 := pb HB.out hx101_0
    replace hx101_1 := pb HB.out hx101_1
    replace hx101_2 := pb HB.out hx101_2
    replace hx101_3 := pb HB.out hx101_3
    replace hx101_4 := pb HB.out hx101_4
    replace p101 := eq_true p101
    replace q101 := eq_true q101
    go_wp2_with (first | (go_at_call 60; (with_reducible refine (impl_pathOrder.calls ((rd_T32 l0 (ji5)).f0) ((rd_T32 l0 (ji5)).f1) ((rd_T32 l0 (ji5)).f2) ((rd_T32 l0 (ji5)).f3) ((rd_T32 l0 (ji5)).f4) a1 t102 _ A8.out).mono ?_); rintro e w11 ⟨rfl, hb⟩; replace HB := aa (below_step zjjbob hb); (try clear hb hk hi)))
    go_roundg k1
    case measure => have := HK1.out; omega
    case rel => exact ⟨(x9_1), (ji5), zagbkp, zjjema, H', ⟨by have := HK1.out; omega⟩, ⟨zjjbob⟩⟩
   ·
    revert H
    refine itD_ (fun c12b0 H => ?_) fun c12b0 H => ?_
    ·
     revert H
     refine itH_ fun c13b0 H => ?_
     revert H
     refine itH_ fun c14b0 H => ?_
     revert H
     refine obs_ fun t104 A15 H => ?_
     simp only [Option.some.injEq, Prod.mk.injEq] at H
     obtain ⟨rfl, rfl⟩ := H
     have p103 : 0 ≤ (x9_1 : Int) := of_decide_eq_true zgglam
     have q103 : x9_1 < (l0.length : Int) := of_decide_eq_true zgglam
     obtain ⟨ad103, e103, hx103_0, hx103_1, hx103_2, hx103_3, hx103_4⟩ := at_T32 HR0.out x9_1 p103 q103
     cases e103
     replace hx103_0 := pb HB.out hx103_0
     replace hx103_1 := pb HB.out hx103_1
     replace hx103_2 := pb HB.out hx103_2
     replace hx103_3 := pb HB.out hx103_3
     replace hx103_4 := pb HB.out hx103_4
     replace p103 := eq_true p103
     replace q103 := eq_true q103
     go_wp2_with (first | (go_at_call 60; (with_reducible refine (impl_pathOrder.calls ((rd_T32 l0 x9_1).f0) ((rd_T32 l0 x9_1).f1) ((rd_T32 l0 x9_1).f2) ((rd_T32 l0 x9_1).f3) ((rd_T32 l0 x9_1).f4) a1 t104 _ A15.out).mono ?_); rintro e w16 ⟨rfl, hb⟩; replace HB := aa (below_step zjjbob hb); (try clear hb hk hi)))
     go_ret2
     exact ⟨zlhpib, zjjbob⟩
    simp only [Option.some.injEq, Prod.mk.injEq] at H
    obtain ⟨rfl, rfl⟩ := H
    go_wp2
    go_ret2
    exact ⟨zlhpib, zjjbob⟩

end Go.Proofs.YtegggpipggniaaaDoor.Qa
