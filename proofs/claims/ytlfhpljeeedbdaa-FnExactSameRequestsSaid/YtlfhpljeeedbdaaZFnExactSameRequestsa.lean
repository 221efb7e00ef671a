/- For every input the law FnExactSameRequests returns true, and every argument reads behind the call as it read before: no condition. Here: the last part, the theorem in it. -/
import Derived.Test.YtlfhpljeeedbdaaQax0
import Derived.Test.YtlfhpljeeedbdaaQax5
import Derived.Test.YtlfhpljeeedbdaaWWords
import Derived.Test.YtlfhpljeeedbdaaQax12
import Derived.Test.YtlfhpljeeedbdaaQax13
import Derived.Test.YtlfhpljeeedbdaaQax15
import Derived.Test.YtlfhpljeeedbdaaQax16
import Derived.Test.YtlfhpljeeedbdaaQax19
import Derived.Test.YtlfhpljeeedbdaaQax20
import Derived.Test.YtlfhpljeeedbdaaQax24
import Derived.Test.YtlfhpljeeedbdaaQax25
import Derived.Test.YtlfhpljeeedbdaaQax28
import Derived.Test.YtlfhpljeeedbdaaQax29
import Derived.Test.YtlfhpljeeedbdaaQax30
import Derived.Test.YtlfhpljeeedbdaaQax31
import Derived.Test.YtlfhpljeeedbdaaQax34
import Derived.Test.YtlfhpljeeedbdaaQax35
import Derived.Test.YtlfhpljeeedbdaaQax36
import Derived.Test.YtlfhpljeeedbdaaQax37
import Derived.Test.YtlfhpljeeedbdaaQax38
import Derived.Test.YtlfhpljeeedbdaaQax43
import Derived.Test.YtlfhpljeeedbdaaQax44
import Derived.Test.YtlfhpljeeedbdaaQax45
import Derived.Test.YtlfhpljeeedbdaaQax46
import Derived.Test.YtlfhpljeeedbdaaQax47
import Derived.Test.YtlfhpljeeedbdaaQax18
import Derived.Test.YtlfhpljeeedbdaaQax22
import Derived.Test.YtlfhpljeeedbdaaQax23
import Derived.Test.YtlfhpljeeedbdaaQax17
import Derived.Test.YtlfhpljeeedbdaaQax21
import Derived.Test.YtlfhpljeeedbdaaQax26
import Derived.Test.YtlfhpljeeedbdaaQax27
import Derived.Test.YtlfhpljeeedbdaaQaxr
import Derived.Test.YtlfhpljeeedbdaaRows
import Derived.WalkKit
import Derived.ProofKit
import Derived.OpenShut
import Derived.ShutString
import Derived.ChangeOld
import Derived.Below
import Derived.SizedLaws
-- By gp.py (wip/gen of the work's repo), a program of this workplace over the kit's print: Lean checks it.
namespace Go.Proofs.Ytlfhpljeeedbdaa.Qa
open Go.RowKit Go.Proofs.YtlfhpljeeedbdaaW.PrintWords Go.Proofs.YtlfhpljeeedbdaaW.PrintLast Go.Proofs.YtlfhpljeeedbdaaW.PrintMore
attribute [local go_sem] max2_int min2_int max_two min_two max_three min_three max_four min_four   -- for this text's walks alone
set_option linter.unusedVariables false
set_option linter.unusedSimpArgs false

/-! ### laws_szZnodeS: function 7 -/
def laws_szZnodeS.l0 : Nat → List (S60) → Int → Int → Option (Int)
  | 0, _, _, _ => none
  | k + 1, x0, x1, x5 => if x5 < (x0.length : Int) then (if 0 ≤ x5 then ((laws_szZnode.f ((rd_T60 x0 x5).f0) ((rd_T60 x0 x5).f1) ((rd_T60 x0 x5).f2) ((rd_T60 x0 x5).f3) ((rd_T60 x0 x5).f4) x1).bind fun t102 => (if t102 < 0 then (some (-1)) else (laws_szZnodeS.l0 k x0 t102 (wrap64 (x5 + 1))))) else (none)) else (some x1)
def laws_szZnodeS.f (k : Nat) (l0 : List (S60)) (a1 : Int) : Option (Int) := if (wrap64 (a1 - (l0.length : Int))) < 0 then (some (-1)) else (laws_szZnodeS.l0 k l0 (wrap64 (a1 - (l0.length : Int))) 0)
theorem laws_szZnodeS.mono_l : ∀ k, (∀ y0 y1 y2, LeO (laws_szZnodeS.l0 k y0 y1 y2) (laws_szZnodeS.l0 (k + 1) y0 y1 y2))
  | 0 => fun _ _ _ r h => by simp [laws_szZnodeS.l0] at h
  | k + 1 => by
    have ih0 := laws_szZnodeS.mono_l k
    · intro y0 y1 y2
      unfold laws_szZnodeS.l0
      repeat' first
      | (with_reducible exact ih0 _ _ _)
      | (with_reducible exact LeO.refl _)
      | (with_reducible exact LeO.none _)
      | (with_reducible refine LeO.ite ?_ ?_)
      | (with_reducible refine LeO.bind ?_ (fun _ => ?_))
      | exact ih0 _ _ _
      | exact LeO.none _
      | refine LeO.ite ?_ ?_
      | refine LeO.bind ?_ (fun _ => ?_)
theorem laws_szZnodeS.mono : ∀ a0 a1 k, LeO (laws_szZnodeS.f k a0 a1) (laws_szZnodeS.f (k + 1) a0 a1) := by
  intro a0 a1 k
  have ih0 := laws_szZnodeS.mono_l k
  unfold laws_szZnodeS.f
  repeat' first
      | (with_reducible exact ih0 _ _ _)
      | (with_reducible exact LeO.refl _)
      | (with_reducible exact LeO.none _)
      | (with_reducible refine LeO.ite ?_ ?_)
      | (with_reducible refine LeO.bind ?_ (fun _ => ?_))
      | exact ih0 _ _ _
      | exact LeO.none _
      | refine LeO.ite ?_ ?_
      | refine LeO.bind ?_ (fun _ => ?_)
set_option maxHeartbeats 8000000 in
set_option maxRecDepth 100000 in
theorem laws_szZnodeS.calls (k : Nat) (A0 : Option Addr) (c0 : Nat) (l0 : List (S60)) (a1 : Int) (r : Int) (w : World) (hr0 : Kd.C k60 w A0 l0.length l0) (hc0 : l0.length ≤ c0) (h : laws_szZnodeS.f k l0 a1 = some r) :
    Calls Try.prog 7 #[.slice A0 l0.length c0, .int .i64 a1] w fun e w' => e = .returned (.int .i64 r) ∧ Below w.heap.size w w' := by
  have hu60 := Try.underlying60
  have HR0 := Aside0.mk hr0
  have HC0 := Aside0.mk hc0
  clear hr0 hc0
  have HB := Aside0.mk (Below.refl w.heap.size w)
  have H : (if (wrap64 (a1 - (l0.length : Int))) < 0 then (some (-1)) else (laws_szZnodeS.l0 k l0 (wrap64 (a1 - (l0.length : Int))) 0)) = some r := h
  clear h
  by_cases c3 : (wrap64 (a1 - (l0.length : Int))) < 0
  · rw [if_pos c3] at H
    have c3b0 : decide ((wrap64 (a1 - (l0.length : Int))) < 0) = true := decide_eq_true c3
    clear c3
    obtain rfl := Option.some.inj H
    go_enter Try.func7, Try.ntmps7
    go_wp2
    go_ret
    exact ⟨by first | rfl | (simp [errW_none, errW_some] <;> rfl) | (simp [*, errW_none, errW_some] <;> rfl), by repeat (first | (with_reducible first | exact HB.out | apply below_alloc | apply pw_below_drewN | apply below_drew1) | exact HB.out)⟩
  · rw [if_neg c3] at H
    have c3b0 : decide ((wrap64 (a1 - (l0.length : Int))) < 0) = false := decide_eq_false c3
    clear c3
    have H' := Aside0.mk H
    clear H
    go_enter Try.func7, Try.ntmps7
    go_wp2
    go_loopg [1, 5] k (fun kq v1 v5 w' => ∃ (x1_1 : Int) (x5_1 : Int), v1 = .int .i64 x1_1 ∧ v5 = .int .i64 x5_1 ∧ Aside0 (laws_szZnodeS.l0 kq l0 x1_1 x5_1 = some r) ∧ Aside0 (kq ≤ k) ∧ Aside0 (Below w.heap.size w w'))
    case atStart => exact ⟨(wrap64 (a1 - (l0.length : Int))), (0), (by first | rfl | (simp; done) | (simp [*]; done)), (by first | rfl | (simp; done) | (simp [*]; done)), H', ⟨Nat.le_refl _⟩, ⟨by repeat (first | (with_reducible first | exact HB.out | apply below_alloc | apply pw_below_drewN | apply below_drew1) | exact HB.out)⟩⟩
    case round =>
      clear H'
      try clear p2
      try clear c3
      try clear c3b0
      obtain ⟨x1_1, x5_1, rfl, rfl, HA, HK1, HB⟩ := hrel
      cases gk with
      | zero => exact absurd HA.out (by simp [laws_szZnodeS.l0])
      | succ k1 =>
        have H := HA.out
        clear HA
        simp only [laws_szZnodeS.l0] at H
        by_cases c4 : x5_1 < (l0.length : Int)
        · rw [if_pos c4] at H
          have c4b0 : decide (x5_1 < (l0.length : Int)) = true := decide_eq_true c4
          clear c4
          by_cases c5 : 0 ≤ x5_1
          · rw [if_pos c5] at H
            have c5b0 : decide (0 ≤ x5_1) = true := decide_eq_true c5
            clear c5
            replace H := Option.bind_eq_some_iff.mp H
            obtain ⟨t102, A60, H⟩ := H
            replace H : (if t102 < 0 then (some (-1)) else (laws_szZnodeS.l0 k1 l0 t102 (wrap64 (x5_1 + 1)))) = some r := H
            have A6 := Aside0.mk A60
            clear A60
            by_cases c7 : t102 < 0
            · rw [if_pos c7] at H
              have c7b0 : decide (t102 < 0) = true := decide_eq_true c7
              clear c7
              obtain rfl := Option.some.inj H
              have p101 : 0 ≤ (x5_1 : Int) := of_decide_eq_true (by first | (with_reducible assumption) | assumption)
              have q101 : x5_1 < (l0.length : Int) := of_decide_eq_true (by first | (with_reducible assumption) | assumption)
              obtain ⟨ad101, e101, hx101_0, hx101_1, hx101_2, hx101_3, hx101_4⟩ := at_T60 HR0.out x5_1 p101 q101
              cases e101
              replace hx101_0 := (HB.out.cell (World.block_lt_of_cell? w _ hx101_0)).trans hx101_0
              replace hx101_1 := (HB.out.cell (World.block_lt_of_cell? w _ hx101_1)).trans hx101_1
              replace hx101_2 := (HB.out.cell (World.block_lt_of_cell? w _ hx101_2)).trans hx101_2
              replace hx101_3 := (HB.out.cell (World.block_lt_of_cell? w _ hx101_3)).trans hx101_3
              replace hx101_4 := (HB.out.cell (World.block_lt_of_cell? w _ hx101_4)).trans hx101_4
              replace p101 := eq_true p101
              replace q101 := eq_true q101
              go_wp2_with (first | ((with_reducible refine gate_callee (f := 27) rfl ?_); refine goesL_ (some 23) rfl rfl Try.func27 (by kernel_rfl) rfl #[.agg #[.string ((rd_T60 l0 x5_1).f0), .int .i64 ((rd_T60 l0 x5_1).f1), .int .i64 ((rd_T60 l0 x5_1).f2), .int .i64 ((rd_T60 l0 x5_1).f3), .int .i64 ((rd_T60 l0 x5_1).f4)], .int .i64 x1_1] rfl (by (try simp only [List.map_toArray, List.map_cons, List.map_nil]); first | done | rfl | (simp only [List.length_drop, List.length_take]; rfl)) ?_; (with_reducible refine (laws_szZnode.calls ((rd_T60 l0 x5_1).f0) ((rd_T60 l0 x5_1).f1) ((rd_T60 l0 x5_1).f2) ((rd_T60 l0 x5_1).f3) ((rd_T60 l0 x5_1).f4) x1_1 t102 _ A6.out).mono ?_); rintro e w8 ⟨rfl, hb⟩; refine ⟨_, rfl, ?_⟩; have n0_ := Aside0.mk (below_step (by repeat (first | (with_reducible first | exact HB.out | apply below_alloc | apply pw_below_drewN | apply below_drew1) | exact HB.out)) hb); clear HB; have HB := n0_; clear n0_; (try clear hb); (try clear hb2); (try clear hk); (try clear hi)))
              go_ret
              exact ⟨by first | rfl | (simp [errW_none, errW_some] <;> rfl) | (simp [*, errW_none, errW_some] <;> rfl), by repeat (first | (with_reducible first | exact HB.out | apply below_alloc | apply pw_below_drewN | apply below_drew1) | exact HB.out)⟩
            · rw [if_neg c7] at H
              have c7b0 : decide (t102 < 0) = false := decide_eq_false c7
              clear c7
              have H' := Aside0.mk H
              clear H
              have p101 : 0 ≤ (x5_1 : Int) := of_decide_eq_true (by first | (with_reducible assumption) | assumption)
              have q101 : x5_1 < (l0.length : Int) := of_decide_eq_true (by first | (with_reducible assumption) | assumption)
              obtain ⟨ad101, e101, hx101_0, hx101_1, hx101_2, hx101_3, hx101_4⟩ := at_T60 HR0.out x5_1 p101 q101
              cases e101
              replace hx101_0 := (HB.out.cell (World.block_lt_of_cell? w _ hx101_0)).trans hx101_0
              replace hx101_1 := (HB.out.cell (World.block_lt_of_cell? w _ hx101_1)).trans hx101_1
              replace hx101_2 := (HB.out.cell (World.block_lt_of_cell? w _ hx101_2)).trans hx101_2
              replace hx101_3 := (HB.out.cell (World.block_lt_of_cell? w _ hx101_3)).trans hx101_3
              replace hx101_4 := (HB.out.cell (World.block_lt_of_cell? w _ hx101_4)).trans hx101_4
              replace p101 := eq_true p101
              replace q101 := eq_true q101
              go_wp2_with (first | ((with_reducible refine gate_callee (f := 27) rfl ?_); refine goesL_ (some 23) rfl rfl Try.func27 (by kernel_rfl) rfl #[.agg #[.string ((rd_T60 l0 x5_1).f0), .int .i64 ((rd_T60 l0 x5_1).f1), .int .i64 ((rd_T60 l0 x5_1).f2), .int .i64 ((rd_T60 l0 x5_1).f3), .int .i64 ((rd_T60 l0 x5_1).f4)], .int .i64 x1_1] rfl (by (try simp only [List.map_toArray, List.map_cons, List.map_nil]); first | done | rfl | (simp only [List.length_drop, List.length_take]; rfl)) ?_; (with_reducible refine (laws_szZnode.calls ((rd_T60 l0 x5_1).f0) ((rd_T60 l0 x5_1).f1) ((rd_T60 l0 x5_1).f2) ((rd_T60 l0 x5_1).f3) ((rd_T60 l0 x5_1).f4) x1_1 t102 _ A6.out).mono ?_); rintro e w9 ⟨rfl, hb⟩; refine ⟨_, rfl, ?_⟩; have n0_ := Aside0.mk (below_step (by repeat (first | (with_reducible first | exact HB.out | apply below_alloc | apply pw_below_drewN | apply below_drew1) | exact HB.out)) hb); clear HB; have HB := n0_; clear n0_; (try clear hb); (try clear hb2); (try clear hk); (try clear hi)))
              go_roundg k1
              case measure => have := HK1.out; omega
              case rel => exact ⟨(t102), (wrap64 (x5_1 + 1)), (by first | rfl | (simp; done) | (simp [*]; done)), (by first | rfl | (simp; done) | (simp [*]; done)), H', ⟨by have := HK1.out; omega⟩, ⟨by repeat (first | (with_reducible first | exact HB.out | apply below_alloc | apply pw_below_drewN | apply below_drew1) | exact HB.out)⟩⟩
          · rw [if_neg c5] at H
            exact absurd H (by simp)
        · rw [if_neg c4] at H
          have c4b0 : decide (x5_1 < (l0.length : Int)) = false := decide_eq_false c4
          clear c4
          obtain rfl := Option.some.inj H
          go_wp2
          go_ret
          exact ⟨by first | rfl | (simp [errW_none, errW_some] <;> rfl) | (simp [*, errW_none, errW_some] <;> rfl), by repeat (first | (with_reducible first | exact HB.out | apply below_alloc | apply pw_below_drewN | apply below_drew1) | exact HB.out)⟩

end Go.Proofs.Ytlfhpljeeedbdaa.Qa

-- By gp.py (wip/gen of the work's repo), a program of this workplace over the kit's print: Lean checks it.
namespace Go.Proofs.Ytlfhpljeeedbdaa.Qa
open Go.RowKit Go.Proofs.YtlfhpljeeedbdaaW.PrintWords Go.Proofs.YtlfhpljeeedbdaaW.PrintLast Go.Proofs.YtlfhpljeeedbdaaW.PrintMore
attribute [local go_sem] max2_int min2_int max_two min_two max_three min_three max_four min_four   -- for this text's walks alone
set_option linter.unusedVariables false
set_option linter.unusedSimpArgs false

/-! ### laws_toZnode: function 28 -/
def laws_toZnode.f (a0_0 : ByteArray) (a0_1 : Int) (a0_2 : Int) (a0_3 : Int) (a0_4 : Int) : Option (ByteArray × Int × Int × Int × Int) := some (a0_0, a0_1, a0_2, a0_3, a0_4)
set_option maxHeartbeats 8000000 in
set_option maxRecDepth 100000 in
theorem laws_toZnode.calls (a0_0 : ByteArray) (a0_1 : Int) (a0_2 : Int) (a0_3 : Int) (a0_4 : Int) (r1 : ByteArray) (r2 : Int) (r3 : Int) (r4 : Int) (r5 : Int) (w : World) (h : laws_toZnode.f a0_0 a0_1 a0_2 a0_3 a0_4 = some (r1, r2, r3, r4, r5)) :
    Calls Try.prog 28 #[.agg #[.string a0_0, .int .i64 a0_1, .int .i64 a0_2, .int .i64 a0_3, .int .i64 a0_4]] w fun e w' => e = .returned (.agg #[.string r1, .int .i64 r2, .int .i64 r3, .int .i64 r4, .int .i64 r5]) ∧ Below w.heap.size w w' := by
  have hu60 := Try.underlying60
  have hu61 := Try.underlying61
  have HB := Aside0.mk (Below.refl w.heap.size w)
  have H : (some (a0_0, a0_1, a0_2, a0_3, a0_4)) = some (r1, r2, r3, r4, r5) := h
  clear h
  simp only [Option.some.injEq, Prod.mk.injEq] at H
  obtain ⟨rfl, rfl, rfl, rfl, rfl⟩ := H
  go_enter Try.func28, Try.ntmps28
  go_wp2_with (first | ((with_reducible refine gate_dst (N := 1) rfl ?_); refine box_event ?hg (N := 1) ?hd (cs := #[.string a0_0, .int .i64 a0_1, .int .i64 a0_2, .int .i64 a0_3, .int .i64 a0_4]) (t := 60) ?hr ?_; (case hd => rfl); (case hg => rfl); (case hr => first | (go_simp; done) | (go_simp; rfl)); intro gb101 hg w2 hbox hb; have n0_ := Aside0.mk (below_step (by repeat (first | (with_reducible first | exact HB.out | apply below_alloc | apply pw_below_drewN | apply below_drew1) | exact HB.out)) hb); have n1_ := Aside0.mk (hbox); have n2_ := Aside0.mk ((by rw [hg]; exact (below_size (by repeat (first | (with_reducible first | exact HB.out | apply below_alloc | apply pw_below_drewN | apply below_drew1) | exact HB.out))) : w.heap.size ≤ gb101)); have n3_ := Aside0.mk ((by rw [hg]; exact (below_size (by repeat (first | (with_reducible first | exact HB.out | apply below_alloc | apply pw_below_drewN | apply below_drew1) | exact HB.out))) : w.heap.size ≤ gb101)); clear HB; have HB := n0_; have BK101 := n1_; have GW101 := n2_; have GE101 := n3_; clear n0_ n1_ n2_ n3_; clear hb hbox hg) | ((with_reducible refine gate_dst (N := 2) rfl ?_); refine box_event ?hg (N := 2) ?hd (cs := #[.string (⟨#[]⟩ : ByteArray), .int .i64 0, .int .i64 0, .int .i64 0, .int .i64 0]) (t := 61) ?hr ?_; (case hd => rfl); (case hg => rfl); (case hr => first | (go_simp; done) | (go_simp; rfl)); intro gb102 hg w3 hbox hb; have n0_ := Aside0.mk (blk_below (g := gb101) (o := .cells #[.string a0_0, .int .i64 a0_1, .int .i64 a0_2, .int .i64 a0_3, .int .i64 a0_4] 60 (0, 0)) (by (with_reducible repeat (first | refine blk_drewN ?_ _ | refine blk_drew ?_ | refine blk_alloc ?_ _)); exact BK101.out) hb); have n1_ := Aside0.mk (below_step (by repeat (first | (with_reducible first | exact HB.out | apply below_alloc | apply pw_below_drewN | apply below_drew1 | refine below_set ?_ GE101.out) | exact HB.out)) hb); have n2_ := Aside0.mk (hbox); have n3_ := Aside0.mk ((by rw [hg]; exact (below_size (by repeat (first | (with_reducible first | exact HB.out | apply below_alloc | apply pw_below_drewN | apply below_drew1 | refine below_set ?_ GE101.out) | exact HB.out))) : w.heap.size ≤ gb102)); have n4_ := Aside0.mk ((by rw [hg]; exact (below_size (by repeat (first | (with_reducible first | exact HB.out | apply below_alloc | apply pw_below_drewN | apply below_drew1 | refine below_set ?_ GE101.out) | exact HB.out))) : w.heap.size ≤ gb102)); have n5_ := Aside0.mk ((by rw [hg]; exact Nat.ne_of_lt (blk_lt (g := gb101) (o := .cells #[.string a0_0, .int .i64 a0_1, .int .i64 a0_2, .int .i64 a0_3, .int .i64 a0_4] 60 (0, 0)) (by (with_reducible repeat (first | refine blk_drewN ?_ _ | refine blk_drew ?_ | refine blk_alloc ?_ _)); exact BK101.out)) : gb101 ≠ gb102)); have n6_ := Aside0.mk ((by rw [hg]; exact Nat.ne_of_gt (blk_lt (g := gb101) (o := .cells #[.string a0_0, .int .i64 a0_1, .int .i64 a0_2, .int .i64 a0_3, .int .i64 a0_4] 60 (0, 0)) (by (with_reducible repeat (first | refine blk_drewN ?_ _ | refine blk_drew ?_ | refine blk_alloc ?_ _)); exact BK101.out)) : gb102 ≠ gb101)); clear BK101; clear HB; have BK101 := n0_; have HB := n1_; have BK102 := n2_; have GW102 := n3_; have GE102 := n4_; have NB101_102 := n5_; have NB102_101 := n6_; clear n0_ n1_ n2_ n3_ n4_ n5_ n6_; clear hb hbox hg) | ((with_reducible refine gate_dst (N := 3) rfl ?_); refine box_event ?hg (N := 3) ?hd (cs := #[.string (⟨#[]⟩ : ByteArray), .int .i64 0, .int .i64 0, .int .i64 0, .int .i64 0]) (t := 61) ?hr ?_; (case hd => rfl); (case hg => rfl); (case hr => first | (go_simp; done) | (go_simp; rfl)); intro gb103 hg w4 hbox hb; have n0_ := Aside0.mk (blk_below (g := gb101) (o := .cells #[.string a0_0, .int .i64 a0_1, .int .i64 a0_2, .int .i64 a0_3, .int .i64 a0_4] 60 (0, 0)) (by (with_reducible repeat (first | refine blk_drewN ?_ _ | refine blk_drew ?_ | refine blk_alloc ?_ _)); exact BK101.out) hb); have n1_ := Aside0.mk (blk_below (g := gb102) (o := .cells #[.string (⟨#[]⟩ : ByteArray), .int .i64 0, .int .i64 0, .int .i64 0, .int .i64 0] 61 (0, 0)) (by (with_reducible repeat (first | refine blk_drewN ?_ _ | refine blk_drew ?_ | refine blk_alloc ?_ _)); exact BK102.out) hb); have n2_ := Aside0.mk (below_step (by repeat (first | (with_reducible first | exact HB.out | apply below_alloc | apply pw_below_drewN | apply below_drew1 | refine below_set ?_ GE101.out | refine below_set ?_ GE102.out) | exact HB.out)) hb); have n3_ := Aside0.mk (hbox); have n4_ := Aside0.mk ((by rw [hg]; exact (below_size (by repeat (first | (with_reducible first | exact HB.out | apply below_alloc | apply pw_below_drewN | apply below_drew1 | refine below_set ?_ GE101.out | refine below_set ?_ GE102.out) | exact HB.out))) : w.heap.size ≤ gb103)); have n5_ := Aside0.mk ((by rw [hg]; exact (below_size (by repeat (first | (with_reducible first | exact HB.out | apply below_alloc | apply pw_below_drewN | apply below_drew1 | refine below_set ?_ GE101.out | refine below_set ?_ GE102.out) | exact HB.out))) : w.heap.size ≤ gb103)); have n6_ := Aside0.mk ((by rw [hg]; exact Nat.ne_of_lt (blk_lt (g := gb101) (o := .cells #[.string a0_0, .int .i64 a0_1, .int .i64 a0_2, .int .i64 a0_3, .int .i64 a0_4] 60 (0, 0)) (by (with_reducible repeat (first | refine blk_drewN ?_ _ | refine blk_drew ?_ | refine blk_alloc ?_ _)); exact BK101.out)) : gb101 ≠ gb103)); have n7_ := Aside0.mk ((by rw [hg]; exact Nat.ne_of_gt (blk_lt (g := gb101) (o := .cells #[.string a0_0, .int .i64 a0_1, .int .i64 a0_2, .int .i64 a0_3, .int .i64 a0_4] 60 (0, 0)) (by (with_reducible repeat (first | refine blk_drewN ?_ _ | refine blk_drew ?_ | refine blk_alloc ?_ _)); exact BK101.out)) : gb103 ≠ gb101)); have n8_ := Aside0.mk ((by rw [hg]; exact Nat.ne_of_lt (blk_lt (g := gb102) (o := .cells #[.string (⟨#[]⟩ : ByteArray), .int .i64 0, .int .i64 0, .int .i64 0, .int .i64 0] 61 (0, 0)) (by (with_reducible repeat (first | refine blk_drewN ?_ _ | refine blk_drew ?_ | refine blk_alloc ?_ _)); exact BK102.out)) : gb102 ≠ gb103)); have n9_ := Aside0.mk ((by rw [hg]; exact Nat.ne_of_gt (blk_lt (g := gb102) (o := .cells #[.string (⟨#[]⟩ : ByteArray), .int .i64 0, .int .i64 0, .int .i64 0, .int .i64 0] 61 (0, 0)) (by (with_reducible repeat (first | refine blk_drewN ?_ _ | refine blk_drew ?_ | refine blk_alloc ?_ _)); exact BK102.out)) : gb103 ≠ gb102)); clear BK101; clear BK102; clear HB; have BK101 := n0_; have BK102 := n1_; have HB := n2_; have BK103 := n3_; have GW103 := n4_; have GE103 := n5_; have NB101_103 := n6_; have NB103_101 := n7_; have NB102_103 := n8_; have NB103_102 := n9_; clear n0_ n1_ n2_ n3_ n4_ n5_ n6_ n7_ n8_ n9_; clear hb hbox hg; have hnb5 := NB101_102.out; have hnc5 := NB102_101.out; have hnb6 := NB101_103.out; have hnc6 := NB103_101.out; have hcz7_0 : w4.cell? ⟨gb101, 0, none⟩ = some (.string a0_0) := (blk_cell BK101.out 0).trans rfl; have hcz7_1 : w4.cell? ⟨gb101, 1, none⟩ = some (.int .i64 a0_1) := (blk_cell BK101.out 1).trans rfl; have hcz7_2 : w4.cell? ⟨gb101, 2, none⟩ = some (.int .i64 a0_2) := (blk_cell BK101.out 2).trans rfl; have hcz7_3 : w4.cell? ⟨gb101, 3, none⟩ = some (.int .i64 a0_3) := (blk_cell BK101.out 3).trans rfl; have hcz7_4 : w4.cell? ⟨gb101, 4, none⟩ = some (.int .i64 a0_4) := (blk_cell BK101.out 4).trans rfl; have hfz7_0 := blk_frozen BK101.out 0; have hfz7_1 := blk_frozen BK101.out 1; have hfz7_2 := blk_frozen BK101.out 2; have hfz7_3 := blk_frozen BK101.out 3; have hfz7_4 := blk_frozen BK101.out 4; have hnb8 := NB103_102.out; have hnc8 := NB102_103.out; have hcz9_0 : w4.cell? ⟨gb103, 0, none⟩ = some (.string (⟨#[]⟩ : ByteArray)) := (blk_cell BK103.out 0).trans rfl; have hcz9_1 : w4.cell? ⟨gb103, 1, none⟩ = some (.int .i64 0) := (blk_cell BK103.out 1).trans rfl; have hcz9_2 : w4.cell? ⟨gb103, 2, none⟩ = some (.int .i64 0) := (blk_cell BK103.out 2).trans rfl; have hcz9_3 : w4.cell? ⟨gb103, 3, none⟩ = some (.int .i64 0) := (blk_cell BK103.out 3).trans rfl; have hcz9_4 : w4.cell? ⟨gb103, 4, none⟩ = some (.int .i64 0) := (blk_cell BK103.out 4).trans rfl; have hfz9_0 := blk_frozen BK103.out 0; have hfz9_1 := blk_frozen BK103.out 1; have hfz9_2 := blk_frozen BK103.out 2; have hfz9_3 := blk_frozen BK103.out 3; have hfz9_4 := blk_frozen BK103.out 4; have hcz10_0 : w4.cell? ⟨gb102, 0, none⟩ = some (.string (⟨#[]⟩ : ByteArray)) := (blk_cell BK102.out 0).trans rfl; have hcz10_1 : w4.cell? ⟨gb102, 1, none⟩ = some (.int .i64 0) := (blk_cell BK102.out 1).trans rfl; have hcz10_2 : w4.cell? ⟨gb102, 2, none⟩ = some (.int .i64 0) := (blk_cell BK102.out 2).trans rfl; have hcz10_3 : w4.cell? ⟨gb102, 3, none⟩ = some (.int .i64 0) := (blk_cell BK102.out 3).trans rfl; have hcz10_4 : w4.cell? ⟨gb102, 4, none⟩ = some (.int .i64 0) := (blk_cell BK102.out 4).trans rfl; have hfz10_0 := blk_frozen BK102.out 0; have hfz10_1 := blk_frozen BK102.out 1; have hfz10_2 := blk_frozen BK102.out 2; have hfz10_3 := blk_frozen BK102.out 3; have hfz10_4 := blk_frozen BK102.out 4))
  refine bodyPost_ret (results_cell_row rfl _ _ gb102 61 #[.string a0_0, .int .i64 a0_1, .int .i64 a0_2, .int .i64 a0_3, .int .i64 a0_4] (0, 0) _ rfl (by (with_reducible repeat (first | refine blk_drewN ?_ _ | refine blk_drew ?_ | refine blk_alloc ?_ _)); refine blk_put (cs := #[.string a0_0, .int .i64 a0_1, .int .i64 a0_2, .int .i64 a0_3, .int .i64 0]) ?_ 4 _ rfl; (with_reducible repeat (first | refine blk_drewN ?_ _ | refine blk_drew ?_ | refine blk_alloc ?_ _)); refine blk_put (cs := #[.string a0_0, .int .i64 a0_1, .int .i64 a0_2, .int .i64 0, .int .i64 0]) ?_ 3 _ rfl; (with_reducible repeat (first | refine blk_drewN ?_ _ | refine blk_drew ?_ | refine blk_alloc ?_ _)); refine blk_put (cs := #[.string a0_0, .int .i64 a0_1, .int .i64 0, .int .i64 0, .int .i64 0]) ?_ 2 _ rfl; (with_reducible repeat (first | refine blk_drewN ?_ _ | refine blk_drew ?_ | refine blk_alloc ?_ _)); refine blk_put (cs := #[.string a0_0, .int .i64 0, .int .i64 0, .int .i64 0, .int .i64 0]) ?_ 1 _ rfl; (with_reducible repeat (first | refine blk_drewN ?_ _ | refine blk_drew ?_ | refine blk_alloc ?_ _)); refine blk_put (cs := #[.string (⟨#[]⟩ : ByteArray), .int .i64 0, .int .i64 0, .int .i64 0, .int .i64 0]) ?_ 0 _ rfl; (with_reducible repeat (first | refine blk_drewN ?_ _ | refine blk_drew ?_ | refine blk_alloc ?_ _)); refine blk_far ?_ NB102_103.out _; (with_reducible repeat (first | refine blk_drewN ?_ _ | refine blk_drew ?_ | refine blk_alloc ?_ _)); refine blk_far ?_ NB102_103.out _; (with_reducible repeat (first | refine blk_drewN ?_ _ | refine blk_drew ?_ | refine blk_alloc ?_ _)); refine blk_far ?_ NB102_103.out _; (with_reducible repeat (first | refine blk_drewN ?_ _ | refine blk_drew ?_ | refine blk_alloc ?_ _)); refine blk_far ?_ NB102_103.out _; (with_reducible repeat (first | refine blk_drewN ?_ _ | refine blk_drew ?_ | refine blk_alloc ?_ _)); refine blk_far ?_ NB102_103.out _; (with_reducible repeat (first | refine blk_drewN ?_ _ | refine blk_drew ?_ | refine blk_alloc ?_ _)); exact BK102.out) Try.underlying61 rfl (by kernel_rfl)) rfl ?_
  exact ⟨by first | rfl | (simp [errW_none, errW_some] <;> rfl) | (simp [*, errW_none, errW_some] <;> rfl), by repeat (first | (with_reducible first | exact HB.out | apply below_alloc | apply pw_below_drewN | apply below_drew1 | refine below_set ?_ GE101.out | refine below_set ?_ GE102.out | refine below_set ?_ GE103.out) | exact HB.out)⟩

end Go.Proofs.Ytlfhpljeeedbdaa.Qa

-- By gp.py (wip/gen of the work's repo), a program of this workplace over the kit's print: Lean checks it.
namespace Go.Proofs.Ytlfhpljeeedbdaa.Qa
open Go.RowKit Go.Proofs.YtlfhpljeeedbdaaW.PrintWords Go.Proofs.YtlfhpljeeedbdaaW.PrintLast Go.Proofs.YtlfhpljeeedbdaaW.PrintMore
attribute [local go_sem] max2_int min2_int max_two min_two max_three min_three max_four min_four   -- for this text's walks alone
set_option linter.unusedVariables false
set_option linter.unusedSimpArgs false

/-! ### laws_toZnodeS: function 9 -/
def laws_toZnodeS.l0 : Nat → List (S60) → List (S61) → Int → Option ((List (S61)))
  | 0, _, _, _ => none
  | k + 1, x0, x3, x4 => if x4 < (x0.length : Int) then (if 0 ≤ x4 then ((laws_toZnode.f ((rd_T60 x0 x4).f0) ((rd_T60 x0 x4).f1) ((rd_T60 x0 x4).f2) ((rd_T60 x0 x4).f3) ((rd_T60 x0 x4).f4)).bind fun bt105 => (if x4 < (x3.length : Int) then (laws_toZnodeS.l0 k x0 (x3.set (x4 : Int).toNat (⟨bt105.1, bt105.2.1, bt105.2.2.1, bt105.2.2.2.1, bt105.2.2.2.2⟩ : S61)) (wrap64 (x4 + 1))) else (none))) else (none)) else (some x3)
def laws_toZnodeS.f (k : Nat) (l0 : List (S60)) : Option ((List (S61))) := if 0 ≤ (l0.length : Int) then (if ((l0.length : Int) : Int).toNat ≤ 5864062014805 then (laws_toZnodeS.l0 k l0 (List.replicate ((l0.length : Int) : Int).toNat z61) 0) else (none)) else (none)
theorem laws_toZnodeS.mono_l : ∀ k, (∀ y0 y1 y2, LeO (laws_toZnodeS.l0 k y0 y1 y2) (laws_toZnodeS.l0 (k + 1) y0 y1 y2))
  | 0 => fun _ _ _ r h => by simp [laws_toZnodeS.l0] at h
  | k + 1 => by
    have ih0 := laws_toZnodeS.mono_l k
    · intro y0 y1 y2
      unfold laws_toZnodeS.l0
      repeat' first
      | (with_reducible exact ih0 _ _ _)
      | (with_reducible exact LeO.refl _)
      | (with_reducible exact LeO.none _)
      | (with_reducible refine LeO.ite ?_ ?_)
      | (with_reducible refine LeO.bind ?_ (fun _ => ?_))
      | exact ih0 _ _ _
      | exact LeO.none _
      | refine LeO.ite ?_ ?_
      | refine LeO.bind ?_ (fun _ => ?_)
theorem laws_toZnodeS.mono : ∀ a0 k, LeO (laws_toZnodeS.f k a0) (laws_toZnodeS.f (k + 1) a0) := by
  intro a0 k
  have ih0 := laws_toZnodeS.mono_l k
  unfold laws_toZnodeS.f
  repeat' first
      | (with_reducible exact ih0 _ _ _)
      | (with_reducible exact LeO.refl _)
      | (with_reducible exact LeO.none _)
      | (with_reducible refine LeO.ite ?_ ?_)
      | (with_reducible refine LeO.bind ?_ (fun _ => ?_))
      | exact ih0 _ _ _
      | exact LeO.none _
      | refine LeO.ite ?_ ?_
      | refine LeO.bind ?_ (fun _ => ?_)
set_option maxHeartbeats 8000000 in
set_option maxRecDepth 100000 in
theorem laws_toZnodeS.calls (k : Nat) (A0 : Option Addr) (c0 : Nat) (l0 : List (S60)) (r : List (S61)) (w : World) (hr0 : Kd.C k60 w A0 l0.length l0) (hc0 : l0.length ≤ c0) (h : laws_toZnodeS.f k l0 = some r) :
    Calls Try.prog 9 #[.slice A0 l0.length c0] w fun e w' => ∃ v0_ : Value, e = .returned (v0_) ∧ Kd.R k61 61 w' w.heap.size (fun _ => True) v0_ r ∧ Below w.heap.size w w' := by
  have hu60 := Try.underlying60
  have hu61 := Try.underlying61
  have HR0 := Aside0.mk hr0
  have HC0 := Aside0.mk hc0
  clear hr0 hc0
  have HB := Aside0.mk (Below.refl w.heap.size w)
  have H : (if 0 ≤ (l0.length : Int) then (if ((l0.length : Int) : Int).toNat ≤ 5864062014805 then (laws_toZnodeS.l0 k l0 (List.replicate ((l0.length : Int) : Int).toNat z61) 0) else (none)) else (none)) = some r := h
  clear h
  by_cases c2 : 0 ≤ (l0.length : Int)
  · rw [if_pos c2] at H
    have c2b0 := eq_true c2
    have c2b1 : decide (0 ≤ (l0.length : Int)) = true := decide_eq_true c2
    clear c2
    by_cases c3 : ((l0.length : Int) : Int).toNat ≤ 5864062014805
    · rw [if_pos c3] at H
      have c3b0 := eq_true c3
      have c3b1 : decide (((l0.length : Int) : Int).toNat ≤ 5864062014805) = true := decide_eq_true c3
      clear c3
      obtain ⟨y101, hy101⟩ : ∃ y_ : List (S61), y_ = (List.replicate ((l0.length : Int) : Int).toNat z61) := ⟨_, rfl⟩
      replace H : (laws_toZnodeS.l0 k l0 y101 0) = some r := by first | (rw [hy101]; with_reducible exact H) | (have H2_ := (Option.bind_some _ _).symm.trans H; rw [hy101]; with_reducible exact H2_) | (have H2_ := (Option.bind_some _ _).symm.trans H; with_reducible exact H2_) | with_reducible exact H | (rw [hy101]; exact H) | exact H
      have Ny101 := Aside0.mk hy101
      clear hy101
      have H' := Aside0.mk H
      clear H
      go_enter Try.func9, Try.ntmps9
      go_wp2_with (first | ((with_reducible refine gate_dst (N := 7) rfl ?_); refine Kd.R_make k61 _ 61 rfl (N := 7) rfl 25 _ _ rfl (l0.length : Int) rfl rfl Try.underlying25 (.agg #[(.string ⟨#[]⟩), (.int .i64 0), (.int .i64 0), (.int .i64 0), (.int .i64 0)]) 48 info61 rfl (by decide) (by omega) z61 (ok := fun _ => True) (okp := fun _ => True) (k61_mkM _ _ _ z61 ) (fun _ hk => hk) trivial (of_decide_eq_true (by first | (with_reducible assumption) | assumption)) (Nat.le_trans (Nat.mul_le_mul_right _ (of_decide_eq_true (by first | (with_reducible assumption) | assumption) : (l0.length : Int).toNat ≤ 5864062014805)) (by omega)) (Below.refl _ _) (Nat.le_refl _) ?_; intro v102 w4 ho5 hb hg_ hnew_; clear hg_ hnew_; (first | rw [← Ny101.out] at ho5 | (simp only [Int.reduceToNat] at ho5; rw [← Ny101.out] at ho5)); have n0_ := Aside0.mk (Kd.R_lower ho5 (below_size (by repeat (first | (with_reducible first | exact HB.out | apply below_alloc | apply pw_below_drewN | apply below_drew1) | exact HB.out)))); have n1_ := Aside0.mk (below_step (by repeat (first | (with_reducible first | exact HB.out | apply below_alloc | apply pw_below_drewN | apply below_drew1) | exact HB.out)) hb); clear HB; have HO103 := n0_; have HB := n1_; clear n0_ n1_; clear hb ho5))
      go_loopg [4] k (fun kq v4 w' => ∃ (x3_1 : List (S61)) (x4_1 : Int), v4 = .int .i64 x4_1 ∧ Aside0 (laws_toZnodeS.l0 kq l0 x3_1 x4_1 = some r) ∧ Aside0 (kq ≤ k) ∧ Aside0 (Kd.R k61 61 w' w.heap.size (fun _ => True) v102 x3_1) ∧ Aside0 (Below w.heap.size w w'))
      case atStart => exact ⟨(y101), (0), (by first | rfl | (simp; done) | (simp [*]; done)), H', ⟨Nat.le_refl _⟩, ⟨by (with_reducible repeat (first | apply Kd.R_alloc | apply Kd.R_drewN | apply Kd.R_drew)); exact HO103.out⟩, ⟨by repeat (first | (with_reducible first | exact HB.out | apply below_alloc | apply pw_below_drewN | apply below_drew1) | exact HB.out)⟩⟩
      case round =>
        clear H'
        try clear c2
        try clear c2b0
        try clear c2b1
        try clear p2
        try clear c3
        try clear c3b0
        try clear c3b1
        obtain ⟨x3_1, x4_1, rfl, HA, HK1, HO_3, HB⟩ := hrel
        cases gk with
        | zero => exact absurd HA.out (by simp [laws_toZnodeS.l0])
        | succ k1 =>
          have H := HA.out
          clear HA
          simp only [laws_toZnodeS.l0] at H
          by_cases c6 : x4_1 < (l0.length : Int)
          · rw [if_pos c6] at H
            have c6b0 : decide (x4_1 < (l0.length : Int)) = true := decide_eq_true c6
            clear c6
            by_cases c7 : 0 ≤ x4_1
            · rw [if_pos c7] at H
              have c7b0 : decide (0 ≤ x4_1) = true := decide_eq_true c7
              clear c7
              replace H := Option.bind_eq_some_iff.mp H
              obtain ⟨⟨t105, t106, t107, t108, t109⟩, A80, H⟩ := H
              replace H : (if x4_1 < (x3_1.length : Int) then (laws_toZnodeS.l0 k1 l0 (x3_1.set (x4_1 : Int).toNat (⟨t105, t106, t107, t108, t109⟩ : S61)) (wrap64 (x4_1 + 1))) else (none)) = some r := H
              have A8 := Aside0.mk A80
              clear A80
              by_cases c9 : x4_1 < (x3_1.length : Int)
              · rw [if_pos c9] at H
                have c9b0 : decide (x4_1 < (x3_1.length : Int)) = true := decide_eq_true c9
                clear c9
                obtain ⟨y110, hy110⟩ : ∃ y_ : List (S61), y_ = (x3_1.set (x4_1 : Int).toNat (⟨t105, t106, t107, t108, t109⟩ : S61)) := ⟨_, rfl⟩
                replace H : (laws_toZnodeS.l0 k1 l0 y110 (wrap64 (x4_1 + 1))) = some r := by first | (rw [hy110]; with_reducible exact H) | (have H2_ := (Option.bind_some _ _).symm.trans H; rw [hy110]; with_reducible exact H2_) | (have H2_ := (Option.bind_some _ _).symm.trans H; with_reducible exact H2_) | with_reducible exact H | (rw [hy110]; exact H) | exact H
                have Ny110 := Aside0.mk hy110
                clear hy110
                have H' := Aside0.mk H
                clear H
                have p104 : 0 ≤ (x4_1 : Int) := of_decide_eq_true (by first | (with_reducible assumption) | assumption)
                have q104 : x4_1 < (l0.length : Int) := of_decide_eq_true (by first | (with_reducible assumption) | assumption)
                obtain ⟨ad104, e104, hx104_0, hx104_1, hx104_2, hx104_3, hx104_4⟩ := at_T60 HR0.out x4_1 p104 q104
                cases e104
                replace hx104_0 := (HB.out.cell (World.block_lt_of_cell? w _ hx104_0)).trans hx104_0
                replace hx104_1 := (HB.out.cell (World.block_lt_of_cell? w _ hx104_1)).trans hx104_1
                replace hx104_2 := (HB.out.cell (World.block_lt_of_cell? w _ hx104_2)).trans hx104_2
                replace hx104_3 := (HB.out.cell (World.block_lt_of_cell? w _ hx104_3)).trans hx104_3
                replace hx104_4 := (HB.out.cell (World.block_lt_of_cell? w _ hx104_4)).trans hx104_4
                replace p104 := eq_true p104
                replace q104 := eq_true q104
                go_wp2_with (first | ((with_reducible refine gate_callee (f := 28) rfl ?_); refine goesL_ (some 20) rfl rfl Try.func28 (by kernel_rfl) rfl #[.agg #[.string ((rd_T60 l0 x4_1).f0), .int .i64 ((rd_T60 l0 x4_1).f1), .int .i64 ((rd_T60 l0 x4_1).f2), .int .i64 ((rd_T60 l0 x4_1).f3), .int .i64 ((rd_T60 l0 x4_1).f4)]] rfl (by (try simp only [List.map_toArray, List.map_cons, List.map_nil]); first | done | rfl | (simp only [List.length_drop, List.length_take]; rfl)) ?_; (with_reducible refine (laws_toZnode.calls ((rd_T60 l0 x4_1).f0) ((rd_T60 l0 x4_1).f1) ((rd_T60 l0 x4_1).f2) ((rd_T60 l0 x4_1).f3) ((rd_T60 l0 x4_1).f4) t105 t106 t107 t108 t109 _ A8.out).mono ?_); rintro e w11 ⟨rfl, hb⟩; refine ⟨_, rfl, ?_⟩; have n0_ := Aside0.mk (Kd.R_below (by (with_reducible repeat (first | apply Kd.R_alloc | apply Kd.R_drewN | apply Kd.R_drew)); exact HO_3.out) hb); have n1_ := Aside0.mk (below_step (by repeat (first | (with_reducible first | exact HB.out | apply below_alloc | apply pw_below_drewN | apply below_drew1) | exact HB.out)) hb); clear HO_3; clear HB; have HO_3 := n0_; have HB := n1_; clear n0_ n1_; (try clear hb); (try clear hb2); (try clear hk); (try clear hi); have p10 : 0 ≤ (x4_1 : Int) := of_decide_eq_true (by first | (with_reducible assumption) | assumption); have q10 : (x4_1 : Int) < ((x3_1.length : Int) : Int) := of_decide_eq_true (by first | (with_reducible assumption) | assumption); obtain ⟨go10, co10, eo10, gb10, gl10, cl10, HG10⟩ := Kd.R_form HO_3.out (by omega); (first | cases eo10 | (injection eo10 with ea_ en_ ec_; (first | subst ea_ | (injection ea_ with ea_; subst ea_)); subst ec_; clear en_)); have GB10 := Aside0.mk gb10; have GG10 := Aside0.mk HG10; clear gb10 gl10 HG10; obtain ⟨ce10, hcl10, hM10, hcc10, hfr10⟩ := Kd.R_elem HO_3.out z61 (x4_1 : Int) p10 q10; obtain rfl := k61_openM hM10; have hx10_0 : w11.cell? ⟨go10, (x4_1 : Int).toNat * 5, none⟩ = some (.string ((rd_T61 x3_1 x4_1).f0)) := hcc10 0 _ rfl; have hx10_1 : w11.cell? ⟨go10, (x4_1 : Int).toNat * 5 + 1, none⟩ = some (.int .i64 ((rd_T61 x3_1 x4_1).f1)) := hcc10 1 _ rfl; have hx10_2 : w11.cell? ⟨go10, (x4_1 : Int).toNat * 5 + 2, none⟩ = some (.int .i64 ((rd_T61 x3_1 x4_1).f2)) := hcc10 2 _ rfl; have hx10_3 : w11.cell? ⟨go10, (x4_1 : Int).toNat * 5 + 3, none⟩ = some (.int .i64 ((rd_T61 x3_1 x4_1).f3)) := hcc10 3 _ rfl; have hx10_4 : w11.cell? ⟨go10, (x4_1 : Int).toNat * 5 + 4, none⟩ = some (.int .i64 ((rd_T61 x3_1 x4_1).f4)) := hcc10 4 _ rfl; have hf10_0 : w11.frozen? ⟨go10, (x4_1 : Int).toNat * 5, none⟩ = false := hfr10 0; have hf10_1 : w11.frozen? ⟨go10, (x4_1 : Int).toNat * 5 + 1, none⟩ = false := hfr10 1; have hf10_2 : w11.frozen? ⟨go10, (x4_1 : Int).toNat * 5 + 2, none⟩ = false := hfr10 2; have hf10_3 : w11.frozen? ⟨go10, (x4_1 : Int).toNat * 5 + 3, none⟩ = false := hfr10 3; have hf10_4 : w11.frozen? ⟨go10, (x4_1 : Int).toNat * 5 + 4, none⟩ = false := hfr10 4; clear hcl10 hcc10 hfr10 hM10; replace p10 := eq_true p10; replace q10 := eq_true q10; have HX12 := Aside0.mk (show Kd.R k61 61 w11 w.heap.size (fun _ => True) (.slice (some ⟨go10, 0, none⟩) x3_1.length co10) x3_1 from (by (with_reducible repeat (first | apply Kd.R_alloc | apply Kd.R_drewN | apply Kd.R_drew)); exact HO_3.out)); obtain ⟨ce12, hcl12, hM12, hcc12, hfr12⟩ := Kd.R_elem HX12.out z61 (x4_1 : Int) (of_decide_eq_true (by first | (with_reducible assumption) | assumption)) (by have h_ : (x4_1 : Int) < ((x3_1.length : Int) : Int) := of_decide_eq_true (by first | (with_reducible assumption) | assumption); first | exact h_ | (have e_ := (Kd.R_reads' HO_3.out).1; omega) | simpa using h_); obtain rfl := k61_openM hM12; have HP12 := Kd.R_seg HX12.out (x4_1 : Int) (of_decide_eq_true (by first | (with_reducible assumption) | assumption)) (by have h_ : (x4_1 : Int) < ((x3_1.length : Int) : Int) := of_decide_eq_true (by first | (with_reducible assumption) | assumption); first | exact h_ | (have e_ := (Kd.R_reads' HO_3.out).1; omega) | simpa using h_) (seg := [.string t105, .int .i64 t106, .int .i64 t107, .int .i64 t108, .int .i64 t109]) (j := 0) hcl12 hcc12 (show 5 ≤ 5 from by decide) (x' := (⟨t105, t106, t107, t108, t109⟩ : S61)) (k61_mkM _ _ _ (⟨t105, t106, t107, t108, t109⟩ : S61) ) (fun _ hk => hk); have hx12_0 := hcc12 0 _ rfl; (try simp only [show (k61).sz = 5 from rfl, Nat.mul_one, Nat.add_zero] at hx12_0); have hf12_0 := hfr12 0; (try simp only [show (k61).sz = 5 from rfl, Nat.mul_one, Nat.add_zero] at hf12_0); have hx12_1 := hcc12 1 _ rfl; (try simp only [show (k61).sz = 5 from rfl, Nat.mul_one, Nat.add_zero] at hx12_1); have hf12_1 := hfr12 1; (try simp only [show (k61).sz = 5 from rfl, Nat.mul_one, Nat.add_zero] at hf12_1); have hx12_2 := hcc12 2 _ rfl; (try simp only [show (k61).sz = 5 from rfl, Nat.mul_one, Nat.add_zero] at hx12_2); have hf12_2 := hfr12 2; (try simp only [show (k61).sz = 5 from rfl, Nat.mul_one, Nat.add_zero] at hf12_2); have hx12_3 := hcc12 3 _ rfl; (try simp only [show (k61).sz = 5 from rfl, Nat.mul_one, Nat.add_zero] at hx12_3); have hf12_3 := hfr12 3; (try simp only [show (k61).sz = 5 from rfl, Nat.mul_one, Nat.add_zero] at hf12_3); have hx12_4 := hcc12 4 _ rfl; (try simp only [show (k61).sz = 5 from rfl, Nat.mul_one, Nat.add_zero] at hx12_4); have hf12_4 := hfr12 4; (try simp only [show (k61).sz = 5 from rfl, Nat.mul_one, Nat.add_zero] at hf12_4); clear hcl12 hcc12 hfr12 hM12) | ((with_reducible refine gate_store (t := 61) (p := 21) rfl ?_); refine store_event (t := 61) (p := 21) (v := ?vo_w13) (w1 := (((((w11.setCell ⟨go10, (x4_1 : Int).toNat * 5, none⟩ (.string t105)).setCell ⟨go10, (x4_1 : Int).toNat * 5 + 1, none⟩ (.int .i64 t106)).setCell ⟨go10, (x4_1 : Int).toNat * 5 + 2, none⟩ (.int .i64 t107)).setCell ⟨go10, (x4_1 : Int).toNat * 5 + 3, none⟩ (.int .i64 t108)).setCell ⟨go10, (x4_1 : Int).toNat * 5 + 4, none⟩ (.int .i64 t109))) ?hg ?ho ?hn ?hr ?_; (case ho => rfl); (case hg => rfl); (case hn => rfl); (case hr => first | (go_simp; done) | (go_simp; rfl)); intro w13 hw; have hg : w11.grownBy w13 (some go10) := (by rw [hw]; exact HP12.2); have hp_ : Kd.R k61 61 w13 w.heap.size (fun _ => True) (.slice (some ⟨go10, 0, none⟩) x3_1.length co10) y110 := (by rw [hw, Ny110.out]; exact HP12.1); clear HP12; have n0_ := Aside0.mk (hp_); have n1_ := Aside0.mk ((by rw [hw]; exact below_set (below_set (below_set (below_set (below_set (HB.out) GB10.out) GB10.out) GB10.out) GB10.out) GB10.out : Below w.heap.size w w13)); clear HO_3; clear HB; have HO_3 := n0_; have HB := n1_; clear n0_ n1_; clear hg hw hp_))
                go_roundg k1
                case measure => have := HK1.out; omega
                case rel => exact ⟨(y110), (wrap64 (x4_1 + 1)), (by first | rfl | (simp; done) | (simp [*]; done)), H', ⟨by have := HK1.out; omega⟩, ⟨by (with_reducible repeat (first | apply Kd.R_alloc | apply Kd.R_drewN | apply Kd.R_drew)); exact HO_3.out⟩, ⟨by repeat (first | (with_reducible first | exact HB.out | apply below_alloc | apply pw_below_drewN | apply below_drew1) | exact HB.out)⟩⟩
              · rw [if_neg c9] at H
                exact absurd H (by simp)
            · rw [if_neg c7] at H
              exact absurd H (by simp)
          · rw [if_neg c6] at H
            have c6b0 : decide (x4_1 < (l0.length : Int)) = false := decide_eq_false c6
            clear c6
            obtain rfl := Option.some.inj H
            go_wp2
            go_ret
            exact ⟨_, by first | rfl | (simp [errW_none, errW_some] <;> rfl) | (simp [*, errW_none, errW_some] <;> rfl), by (with_reducible repeat (first | apply Kd.R_alloc | apply Kd.R_drewN | apply Kd.R_drew)); exact HO_3.out, by repeat (first | (with_reducible first | exact HB.out | apply below_alloc | apply pw_below_drewN | apply below_drew1) | exact HB.out)⟩
    · rw [if_neg c3] at H
      exact absurd H (by simp)
  · rw [if_neg c2] at H
    exact absurd H (by simp)

end Go.Proofs.Ytlfhpljeeedbdaa.Qa

/- Small laws of the pure side: what ends, step by step; whole numbers; lists by places. -/
namespace Go.Proofs.Ytlfhpljeeedbdaa.Aid
open Go.RowKit Go.Proofs.YtlfhpljeeedbdaaW.PrintWords

theorem wrap_id {x : Int} (h0 : -9223372036854775808 ≤ x) (h1 : x ≤ 9223372036854775807) : wrap64 x = x := by
  unfold wrap64
  omega
theorem wrap_up {i n : Nat} (h : i < n) (hn : n ≤ 4611686018427387904) : wrap64 ((i : Int) + 1) = ((i + 1 : Nat) : Int) := by
  rw [wrap_id (by omega) (by omega)]
  omega
theorem wf_lo {x : Int} (h : (Lit.int .i64 x).wf = true) : -9223372036854775808 ≤ x ∧ x ≤ 9223372036854775807 := by
  have h' : (decide (IntKind.i64.min ≤ x) && decide (x ≤ IntKind.i64.max)) = true := h
  simp only [Bool.and_eq_true, decide_eq_true_eq] at h'
  exact h'
/-- One round, then what is known of the rest. -/
theorem ev_step {α : Type} {g : Nat → Option α} (f : Nat → Option α) {r : α} (h : ∀ k, g (k + 1) = f k) (k : Ev f r) : Ev g r := Ev.step h k
theorem ev_done {α : Type} {g : Nat → Option α} {r : α} (h : ∀ k, g (k + 1) = some r) : Ev g r := Ev.step h (Ev.now r)
theorem ev_is {α : Type} {g : Nat → Option α} {r : α} (h : ∀ k, g k = some r) : Ev g r := ⟨0, fun k _ => h k⟩
/-- A call whose answer is known, then the rest. -/
theorem ev_call {α β : Type} {g : Nat → Option α} {f : Nat → α → Option β} {a : α} {r : β} (h : Ev g a) (k : Ev (fun n => f n a) r) : Ev (fun n => (g n).bind (f n)) r := Ev.bind h k
theorem ev_cong {α : Type} {g f : Nat → Option α} {r : α} (h : ∀ k, g k = f k) (k : Ev f r) : Ev g r := Ev.congr h k
theorem rd_at {l : List Int} {i : Nat} (h : i < l.length) : rd l (i : Int) = l[i] := by
  unfold rd
  rw [Int.toNat_natCast, List.getD_eq_getElem?_getD, List.getElem?_eq_getElem h]
  rfl
theorem drop_at {α : Type} {l : List α} {i : Nat} (h : i < l.length) : l.drop i = l[i] :: l.drop (i + 1) := List.drop_eq_getElem_cons h
theorem drop_end {α : Type} {l : List α} {i : Nat} (h : l.length ≤ i) : l.drop i = [] := List.drop_eq_nil_of_le h
theorem rd_set_at {l : List Int} {i : Nat} {v : Int} (h : i < l.length) : rd (l.set i v) (i : Int) = v := by
  rw [rd_at (by simpa using h)]
  simp
theorem rdOf_at {α : Type} {z : α} {l : List α} {i : Nat} (h : i < l.length) : rdOf z l (i : Int) = l[i] := by
  unfold rdOf
  rw [Int.toNat_natCast, List.getD_eq_getElem?_getD, List.getElem?_eq_getElem h]
  rfl
theorem rdOf_set_at {α : Type} {z : α} {l : List α} {i : Nat} {v : α} (h : i < l.length) : rdOf z (l.set i v) (i : Int) = v := by
  rw [rdOf_at (by simpa using h)]
  simp
theorem take_set_snoc {α : Type} {l : List α} {i : Nat} {v : α} (h : i < l.length) : (l.set i v).take (i + 1) = l.take i ++ [v] := by
  rw [List.take_succ_eq_append_getElem (by simpa using h), List.take_set_of_le (Nat.le_refl i)]
  simp
theorem take_set_next {α : Type} {m L : List α} {i : Nat} {v : α} (h : i < m.length) (h' : i < L.length) (ht : m.take i = L.take i) (hv : L[i] = v) : (m.set i v).take (i + 1) = L.take (i + 1) := by
  rw [take_set_snoc h, List.take_succ_eq_append_getElem h', ht, hv]
theorem wr1_ (m : Int) (h0 : -9223372036854775808 ≤ m + 1) (h1 : m + 1 ≤ 9223372036854775807) : wrap64 (m + 1) = m + 1 := wrap_id h0 h1
theorem wrn_ (m j j1 : Int) (e : j + 1 = j1) (h0 : -9223372036854775808 ≤ m + j + 1) (h1 : m + j + 1 ≤ 9223372036854775807) : wrap64 (m + j + 1) = m + j1 := by
  rw [wrap_id h0 h1]
  omega
theorem size_strOfNums (xs : List Int) : (strOfNums xs).size = xs.length := by
  simp [strOfNums, ByteArray.size]
theorem tdiv_lt {x : Int} (h : 0 < x) : 0 ≤ Int.tdiv x 10 ∧ Int.tdiv x 10 + 1 ≤ x := by
  have : Int.tdiv x 10 = x / 10 := Int.tdiv_eq_ediv_of_nonneg (by omega)
  rw [this]
  omega
/-- Where what is so stands ahead of what is not: how many are so is the place. -/
theorem take_pos {α : Type} (p : α → Bool) (l : List α) (hm : l.Pairwise (fun x y => p y = true → p x = true)) : ∀ j (hj : j < l.length), p l[j] = true ↔ j < (l.takeWhile p).length := by
  induction l with
  | nil => intro j hj; simp at hj
  | cons x l ih =>
    intro j hj
    obtain ⟨h1, h2⟩ := List.pairwise_cons.1 hm
    cases hx : p x with
    | true =>
      rw [List.takeWhile_cons_of_pos hx]
      cases j with
      | zero => simp [hx]
      | succ j => simpa using ih h2 j (by simpa using hj)
    | false =>
      rw [List.takeWhile_cons_of_neg (by simp [hx])]
      cases j with
      | zero => simp [hx]
      | succ j =>
        have hj' : j < l.length := by simpa using hj
        have : p l[j] = true → False := fun h => by
          have := h1 l[j] (List.getElem_mem hj') h
          rw [hx] at this
          cases this
        simp
        exact Bool.eq_false_iff.2 this
theorem take_pos_le {α : Type} (p : α → Bool) (l : List α) : (l.takeWhile p).length ≤ l.length := (List.takeWhile_prefix p).length_le
theorem mid_eq {a b : Nat} (h : a + b ≤ 4611686018427387904) : wrap64 ((IntKind.u64.wrap (wrap64 ((a : Int) + (b : Int)))) / 2) = ((((a + b) / 2 : Nat)) : Int) := by
  have e : wrap64 ((a : Int) + (b : Int)) = ((a + b : Nat) : Int) := by rw [wrap_id (by omega) (by omega)]; omega
  have e2 : IntKind.u64.wrap (((a + b : Nat)) : Int) = ((a + b : Nat) : Int) := by
    have : IntKind.u64.wrap (((a + b : Nat)) : Int) = (((a + b : Nat)) : Int) % 18446744073709551616 := rfl
    rw [this]
    omega
  rw [e, e2, wrap_id (by omega) (by omega)]
  omega
end Go.Proofs.Ytlfhpljeeedbdaa.Aid

-- By gp.py (wip/gen of the work's repo), a program of this workplace over the kit's print: Lean checks it.
namespace Go.Proofs.Ytlfhpljeeedbdaa.Qa
open Go.RowKit Go.Proofs.YtlfhpljeeedbdaaW.PrintWords Go.Proofs.YtlfhpljeeedbdaaW.PrintLast Go.Proofs.Ytlfhpljeeedbdaa.Aid
set_option linter.unusedVariables false
set_option linter.unusedSimpArgs false

def cvZnode (x : S60) : S61 := (⟨x.f0, x.f1, x.f2, x.f3, x.f4⟩ : S61)
theorem laws_toZnode.is (x : S60) : laws_toZnode.f x.f0 x.f1 x.f2 x.f3 x.f4 = some (x.f0, x.f1, x.f2, x.f3, x.f4) := by
  rfl
theorem laws_eqZnode.is (x : S61) : laws_eqZnode.f x.f0 x.f1 x.f2 x.f3 x.f4 x.f0 x.f1 x.f2 x.f3 x.f4 = some true := by
  simp [laws_eqZnode.f]
theorem laws_eqReply.is (x : S51) : laws_eqReply.f x.f0 x.f1 x.f2 x.f0 x.f1 x.f2 = some true := by
  simp [laws_eqReply.f]
def cvOp (x : S84) : S66 := (⟨x.f0, x.f1, x.f2, x.f3, x.f4, x.f5⟩ : S66)
theorem laws_toOp.is (x : S84) : laws_toOp.f x.f0 x.f1 x.f2 x.f3 x.f4 x.f5 = some (x.f0, x.f1, x.f2, x.f3, x.f4, x.f5) := by
  rfl
theorem laws_eqOp.is (x : S66) : laws_eqOp.f x.f0 x.f1 x.f2 x.f3 x.f4 x.f5 x.f0 x.f1 x.f2 x.f3 x.f4 x.f5 = some true := by
  simp [laws_eqOp.f]
def cvSession (x : S92) : S72 := (⟨x.f0, x.f1⟩ : S72)
theorem laws_toSession.is (x : S92) : laws_toSession.f x.f0 x.f1 = some (x.f0, x.f1) := by
  rfl
def cvMark (x : S90) : S74 := (⟨x.f0, x.f1, (⟨x.f2.f0, x.f2.f1, x.f2.f2⟩ : S51)⟩ : S74)
theorem laws_toMark.is (x : S90) : laws_toMark.f x.f0 x.f1 x.f2.f0 x.f2.f1 x.f2.f2 = some (x.f0, x.f1, x.f2.f0, x.f2.f1, x.f2.f2) := by
  unfold laws_toMark.f
  rfl
theorem laws_eqSession.is (x : S72) : laws_eqSession.f x.f0 x.f1 x.f0 x.f1 = some true := by
  simp [laws_eqSession.f]
theorem laws_eqMark.is (x : S74) : laws_eqMark.f x.f0 x.f1 x.f2.f0 x.f2.f1 x.f2.f2 x.f0 x.f1 x.f2.f0 x.f2.f1 x.f2.f2 = some true := by
  simp [laws_eqMark.f, laws_eqReply.f]
def cvReply (x : S88) : S51 := (⟨x.f0, x.f1, x.f2⟩ : S51)
theorem laws_toReply.is (x : S88) : laws_toReply.f x.f0 x.f1 x.f2 = some (x.f0, x.f1, x.f2) := by
  rfl
theorem rd_T60_at {l : List (S60)} {i : Nat} (h : i < l.length) : rd_T60 l (i : Int) = l[i] := by
  unfold rd_T60
  rw [Int.toNat_natCast, List.getD_eq_getElem?_getD, List.getElem?_eq_getElem h]
  rfl
theorem rd_T60_set {l : List (S60)} {i : Nat} {v : S60} (h : i < l.length) : rd_T60 (l.set i v) (i : Int) = v := by
  rw [rd_T60_at (by simpa using h)]
  simp
theorem laws_szZnode.is (x : S60) (a : Int) (hx : x.f0.size ≤ 9223372036854775807) (h0 : 0 ≤ a) (h1 : a ≤ 1048576) : laws_szZnode.f x.f0 x.f1 x.f2 x.f3 x.f4 a = some (if a - (x.f0.size : Int) < 0 then -1 else a - (x.f0.size : Int)) := by
  unfold laws_szZnode.f
  rw [wrap_id (by omega) (by omega)]
  by_cases h : a - (x.f0.size : Int) < 0
  · rw [if_pos h, if_pos h]
  · rw [if_neg h, if_neg h]
theorem laws_szZnodeS.l0_ev (l : List (S60)) (hl : l.length ≤ 4611686018427387904) (hx : ∀ x ∈ l, x.f0.size ≤ 9223372036854775807) (d : Nat) : ∀ (i : Nat) (a : Int), i + d = l.length → 0 ≤ a → a ≤ 1048576 → ∃ r : Int, Ev (fun k => laws_szZnodeS.l0 k l a (i : Int)) r ∧ (0 ≤ r → r ≤ a ∧ ∀ x ∈ l.drop i, (x.f0.size : Int) ≤ a) := by
  induction d with
  | zero =>
    intro i a h h0 h1
    refine ⟨a, ev_done fun k => ?_, fun _ => ⟨Int.le_refl _, ?_⟩⟩
    · simp only [laws_szZnodeS.l0]; rw [if_neg (by omega)]
    · rw [drop_end (by omega)]; intro x hx; cases hx
  | succ d ih =>
    intro i a h h0 h1
    have hi : i < l.length := by omega
    have hxi := hx l[i] (List.getElem_mem hi)
    by_cases hn : a - (l[i].f0.size : Int) < 0
    · refine ⟨-1, ev_done fun k => ?_, by omega⟩
      simp only [laws_szZnodeS.l0]; rw [if_pos (by omega), if_pos (by omega), rd_T60_at hi, laws_szZnode.is _ _ hxi h0 h1, if_pos hn]; simp only [Option.bind_some]; rw [if_pos (by omega)]
    · obtain ⟨r, hr, hq⟩ := ih (i + 1) (a - (l[i].f0.size : Int)) (by omega) (by omega) (by omega)
      refine ⟨r, ev_step (fun k => laws_szZnodeS.l0 k l (a - (l[i].f0.size : Int)) ((i + 1 : Nat) : Int)) (fun k => ?_) hr, fun hr0 => ?_⟩
      · simp only [laws_szZnodeS.l0]; rw [if_pos (by omega), if_pos (by omega), rd_T60_at hi, laws_szZnode.is _ _ hxi h0 h1, if_neg hn]; simp only [Option.bind_some]; rw [if_neg (by omega), wrap_up hi hl]
      · obtain ⟨h2, h3⟩ := hq hr0
        refine ⟨by omega, fun x hx' => ?_⟩
        rw [drop_at hi] at hx'
        rcases List.mem_cons.1 hx' with rfl | hx'
        · omega
        · have := h3 x hx'; omega
theorem laws_szZnodeS.ev (l : List (S60)) (a : Int) (hl : l.length ≤ 9223372036854775807) (hx : ∀ x ∈ l, x.f0.size ≤ 9223372036854775807) (h0 : 0 ≤ a) (h1 : a ≤ 1048576) : ∃ r : Int, Ev (fun k => laws_szZnodeS.f k l a) r ∧ (0 ≤ r → r ≤ a ∧ (l.length : Int) ≤ a ∧ ∀ x ∈ l, (x.f0.size : Int) ≤ a) := by
  unfold laws_szZnodeS.f
  by_cases h : a - (l.length : Int) < 0
  · refine ⟨-1, ev_is fun k => ?_, by omega⟩
    rw [wrap_id (by omega) (by omega), if_pos h]
  · obtain ⟨r, hr, hq⟩ := laws_szZnodeS.l0_ev l (by omega) hx l.length 0 (a - (l.length : Int)) (by omega) (by omega) (by omega)
    refine ⟨r, ev_cong (fun k => ?_) hr, fun hr0 => ?_⟩
    · rw [wrap_id (by omega) (by omega), if_neg h]; rfl
    · obtain ⟨h2, h3⟩ := hq hr0
      rw [List.drop_zero] at h3
      exact ⟨by omega, by omega, fun x hx' => by have := h3 x hx'; omega⟩
theorem laws_toZnodeS.l0_ev (l : List (S60)) (hl : l.length ≤ 4611686018427387904) (d : Nat) : ∀ (i : Nat) (m : List (S61)), i + d = l.length → m.length = l.length → m.take i = (l.map cvZnode).take i → Ev (fun k => laws_toZnodeS.l0 k l m (i : Int)) (l.map cvZnode) := by
  induction d with
  | zero =>
    intro i m h hm ht
    have e : m = (l.map cvZnode) := by rw [List.take_of_length_le (by omega), List.take_of_length_le (by rw [List.length_map]; omega)] at ht; exact ht
    exact ev_done fun k => by simp only [laws_toZnodeS.l0]; rw [if_neg (by omega), e]
  | succ d ih =>
    intro i m h hm ht
    have hi : i < l.length := by omega
    have hi' : i < (l.map cvZnode).length := by rw [List.length_map]; omega
    have hv : (l.map cvZnode)[i] = (cvZnode l[i]) := by rw [List.getElem_map]
    refine ev_step (fun k => laws_toZnodeS.l0 k l (m.set i (cvZnode l[i])) ((i + 1 : Nat) : Int)) (fun k => ?_) (ih (i + 1) (m.set i (cvZnode l[i])) (by omega) (by rw [List.length_set]; exact hm) ?_)
    · simp only [laws_toZnodeS.l0]; rw [if_pos (by omega), if_pos (by omega), rd_T60_at hi, laws_toZnode.is]; simp only [Option.bind_some]; rw [if_pos (by omega), wrap_up hi hl, Int.toNat_natCast]; rfl
    · exact take_set_next (by omega) hi' ht hv
theorem laws_toZnodeS.ev (l : List (S60)) (hl : l.length ≤ 1048576) : Ev (fun k => laws_toZnodeS.f k l) (l.map cvZnode) := by
  unfold laws_toZnodeS.f
  refine ev_cong (f := fun k => laws_toZnodeS.l0 k l (List.replicate l.length z61) ((0 : Nat) : Int)) (fun k => ?_) (laws_toZnodeS.l0_ev l (by omega) l.length 0 _ (by omega) (by simp) (by simp))
  rw [if_pos (by omega), if_pos (by rw [Int.toNat_natCast]; omega), Int.toNat_natCast]; rfl
theorem rd_T61_at {l : List (S61)} {i : Nat} (h : i < l.length) : rd_T61 l (i : Int) = l[i] := by
  unfold rd_T61
  rw [Int.toNat_natCast, List.getD_eq_getElem?_getD, List.getElem?_eq_getElem h]
  rfl
theorem rd_T61_set {l : List (S61)} {i : Nat} {v : S61} (h : i < l.length) : rd_T61 (l.set i v) (i : Int) = v := by
  rw [rd_T61_at (by simpa using h)]
  simp
theorem laws_eqZnodeS.l0_ev (l : List (S61)) (hl : l.length ≤ 4611686018427387904) (d : Nat) : ∀ (i : Nat), i + d = l.length → Ev (fun k => laws_eqZnodeS.l0 k l l (i : Int)) true := by
  induction d with
  | zero => exact fun i h => ev_done fun k => by simp only [laws_eqZnodeS.l0]; rw [if_neg (by omega)]
  | succ d ih =>
    intro i h
    have hi : i < l.length := by omega
    refine ev_step (fun k => laws_eqZnodeS.l0 k l l ((i + 1 : Nat) : Int)) (fun k => ?_) (ih (i + 1) (by omega))
    simp only [laws_eqZnodeS.l0]; rw [if_pos (by omega), if_pos (by omega), if_pos (by omega), laws_eqZnode.is, Option.bind_some, if_pos rfl, wrap_up hi hl]
theorem laws_eqZnodeS.ev (l : List (S61)) (hl : l.length ≤ 4611686018427387904) : Ev (fun k => laws_eqZnodeS.f k l l) true := by
  unfold laws_eqZnodeS.f
  exact ev_cong (fun k => if_pos rfl) (laws_eqZnodeS.l0_ev l hl l.length 0 (by omega))
theorem rd_T84_at {l : List (S84)} {i : Nat} (h : i < l.length) : rd_T84 l (i : Int) = l[i] := by
  unfold rd_T84
  rw [Int.toNat_natCast, List.getD_eq_getElem?_getD, List.getElem?_eq_getElem h]
  rfl
theorem rd_T84_set {l : List (S84)} {i : Nat} {v : S84} (h : i < l.length) : rd_T84 (l.set i v) (i : Int) = v := by
  rw [rd_T84_at (by simpa using h)]
  simp
theorem laws_szOp.is (x : S84) (a : Int) (hx : x.f1.size ≤ 9223372036854775807) (h0 : 0 ≤ a) (h1 : a ≤ 1048576) : laws_szOp.f x.f0 x.f1 x.f2 x.f3 x.f4 x.f5 a = some (if a - (x.f1.size : Int) < 0 then -1 else a - (x.f1.size : Int)) := by
  unfold laws_szOp.f
  rw [wrap_id (by omega) (by omega)]
  by_cases h : a - (x.f1.size : Int) < 0
  · rw [if_pos h, if_pos h]
  · rw [if_neg h, if_neg h]
theorem laws_szOpS.l0_ev (l : List (S84)) (hl : l.length ≤ 4611686018427387904) (hx : ∀ x ∈ l, x.f1.size ≤ 9223372036854775807) (d : Nat) : ∀ (i : Nat) (a : Int), i + d = l.length → 0 ≤ a → a ≤ 1048576 → ∃ r : Int, Ev (fun k => laws_szOpS.l0 k l a (i : Int)) r ∧ (0 ≤ r → r ≤ a ∧ ∀ x ∈ l.drop i, (x.f1.size : Int) ≤ a) := by
  induction d with
  | zero =>
    intro i a h h0 h1
    refine ⟨a, ev_done fun k => ?_, fun _ => ⟨Int.le_refl _, ?_⟩⟩
    · simp only [laws_szOpS.l0]; rw [if_neg (by omega)]
    · rw [drop_end (by omega)]; intro x hx; cases hx
  | succ d ih =>
    intro i a h h0 h1
    have hi : i < l.length := by omega
    have hxi := hx l[i] (List.getElem_mem hi)
    by_cases hn : a - (l[i].f1.size : Int) < 0
    · refine ⟨-1, ev_done fun k => ?_, by omega⟩
      simp only [laws_szOpS.l0]; rw [if_pos (by omega), if_pos (by omega), rd_T84_at hi, laws_szOp.is _ _ hxi h0 h1, if_pos hn]; simp only [Option.bind_some]; rw [if_pos (by omega)]
    · obtain ⟨r, hr, hq⟩ := ih (i + 1) (a - (l[i].f1.size : Int)) (by omega) (by omega) (by omega)
      refine ⟨r, ev_step (fun k => laws_szOpS.l0 k l (a - (l[i].f1.size : Int)) ((i + 1 : Nat) : Int)) (fun k => ?_) hr, fun hr0 => ?_⟩
      · simp only [laws_szOpS.l0]; rw [if_pos (by omega), if_pos (by omega), rd_T84_at hi, laws_szOp.is _ _ hxi h0 h1, if_neg hn]; simp only [Option.bind_some]; rw [if_neg (by omega), wrap_up hi hl]
      · obtain ⟨h2, h3⟩ := hq hr0
        refine ⟨by omega, fun x hx' => ?_⟩
        rw [drop_at hi] at hx'
        rcases List.mem_cons.1 hx' with rfl | hx'
        · omega
        · have := h3 x hx'; omega
theorem laws_szOpS.ev (l : List (S84)) (a : Int) (hl : l.length ≤ 9223372036854775807) (hx : ∀ x ∈ l, x.f1.size ≤ 9223372036854775807) (h0 : 0 ≤ a) (h1 : a ≤ 1048576) : ∃ r : Int, Ev (fun k => laws_szOpS.f k l a) r ∧ (0 ≤ r → r ≤ a ∧ (l.length : Int) ≤ a ∧ ∀ x ∈ l, (x.f1.size : Int) ≤ a) := by
  unfold laws_szOpS.f
  by_cases h : a - (l.length : Int) < 0
  · refine ⟨-1, ev_is fun k => ?_, by omega⟩
    rw [wrap_id (by omega) (by omega), if_pos h]
  · obtain ⟨r, hr, hq⟩ := laws_szOpS.l0_ev l (by omega) hx l.length 0 (a - (l.length : Int)) (by omega) (by omega) (by omega)
    refine ⟨r, ev_cong (fun k => ?_) hr, fun hr0 => ?_⟩
    · rw [wrap_id (by omega) (by omega), if_neg h]; rfl
    · obtain ⟨h2, h3⟩ := hq hr0
      rw [List.drop_zero] at h3
      exact ⟨by omega, by omega, fun x hx' => by have := h3 x hx'; omega⟩
theorem laws_toOpS.l0_ev (l : List (S84)) (hl : l.length ≤ 4611686018427387904) (d : Nat) : ∀ (i : Nat) (m : List (S66)), i + d = l.length → m.length = l.length → m.take i = (l.map cvOp).take i → Ev (fun k => laws_toOpS.l0 k l m (i : Int)) (l.map cvOp) := by
  induction d with
  | zero =>
    intro i m h hm ht
    have e : m = (l.map cvOp) := by rw [List.take_of_length_le (by omega), List.take_of_length_le (by rw [List.length_map]; omega)] at ht; exact ht
    exact ev_done fun k => by simp only [laws_toOpS.l0]; rw [if_neg (by omega), e]
  | succ d ih =>
    intro i m h hm ht
    have hi : i < l.length := by omega
    have hi' : i < (l.map cvOp).length := by rw [List.length_map]; omega
    have hv : (l.map cvOp)[i] = (cvOp l[i]) := by rw [List.getElem_map]
    refine ev_step (fun k => laws_toOpS.l0 k l (m.set i (cvOp l[i])) ((i + 1 : Nat) : Int)) (fun k => ?_) (ih (i + 1) (m.set i (cvOp l[i])) (by omega) (by rw [List.length_set]; exact hm) ?_)
    · simp only [laws_toOpS.l0]; rw [if_pos (by omega), if_pos (by omega), rd_T84_at hi, laws_toOp.is]; simp only [Option.bind_some]; rw [if_pos (by omega), wrap_up hi hl, Int.toNat_natCast]; rfl
    · exact take_set_next (by omega) hi' ht hv
theorem laws_toOpS.ev (l : List (S84)) (hl : l.length ≤ 1048576) : Ev (fun k => laws_toOpS.f k l) (l.map cvOp) := by
  unfold laws_toOpS.f
  refine ev_cong (f := fun k => laws_toOpS.l0 k l (List.replicate l.length z66) ((0 : Nat) : Int)) (fun k => ?_) (laws_toOpS.l0_ev l (by omega) l.length 0 _ (by omega) (by simp) (by simp))
  rw [if_pos (by omega), if_pos (by rw [Int.toNat_natCast]; omega), Int.toNat_natCast]; rfl
theorem rd_T66_at {l : List (S66)} {i : Nat} (h : i < l.length) : rd_T66 l (i : Int) = l[i] := by
  unfold rd_T66
  rw [Int.toNat_natCast, List.getD_eq_getElem?_getD, List.getElem?_eq_getElem h]
  rfl
theorem rd_T66_set {l : List (S66)} {i : Nat} {v : S66} (h : i < l.length) : rd_T66 (l.set i v) (i : Int) = v := by
  rw [rd_T66_at (by simpa using h)]
  simp
theorem laws_eqOpS.l0_ev (l : List (S66)) (hl : l.length ≤ 4611686018427387904) (d : Nat) : ∀ (i : Nat), i + d = l.length → Ev (fun k => laws_eqOpS.l0 k l l (i : Int)) true := by
  induction d with
  | zero => exact fun i h => ev_done fun k => by simp only [laws_eqOpS.l0]; rw [if_neg (by omega)]
  | succ d ih =>
    intro i h
    have hi : i < l.length := by omega
    refine ev_step (fun k => laws_eqOpS.l0 k l l ((i + 1 : Nat) : Int)) (fun k => ?_) (ih (i + 1) (by omega))
    simp only [laws_eqOpS.l0]; rw [if_pos (by omega), if_pos (by omega), if_pos (by omega), laws_eqOp.is, Option.bind_some, if_pos rfl, wrap_up hi hl]
theorem laws_eqOpS.ev (l : List (S66)) (hl : l.length ≤ 4611686018427387904) : Ev (fun k => laws_eqOpS.f k l l) true := by
  unfold laws_eqOpS.f
  exact ev_cong (fun k => if_pos rfl) (laws_eqOpS.l0_ev l hl l.length 0 (by omega))
theorem rd_T92_at {l : List (S92)} {i : Nat} (h : i < l.length) : rd_T92 l (i : Int) = l[i] := by
  unfold rd_T92
  rw [Int.toNat_natCast, List.getD_eq_getElem?_getD, List.getElem?_eq_getElem h]
  rfl
theorem rd_T92_set {l : List (S92)} {i : Nat} {v : S92} (h : i < l.length) : rd_T92 (l.set i v) (i : Int) = v := by
  rw [rd_T92_at (by simpa using h)]
  simp
theorem laws_szSessionS.ev (l : List (S92)) (a : Int) (hl : l.length ≤ 9223372036854775807) (h0 : 0 ≤ a) (h1 : a ≤ 1048576) : ∃ r : Int, (laws_szSessionS.f l a = some r) ∧ (0 ≤ r → r ≤ a ∧ (l.length : Int) ≤ a) := by
  unfold laws_szSessionS.f
  rw [wrap_id (by omega) (by omega)]
  by_cases h : a - (l.length : Int) < 0
  · exact ⟨-1, if_pos h, by omega⟩
  · exact ⟨_, if_neg h, by omega⟩
theorem rd_T90_at {l : List (S90)} {i : Nat} (h : i < l.length) : rd_T90 l (i : Int) = l[i] := by
  unfold rd_T90
  rw [Int.toNat_natCast, List.getD_eq_getElem?_getD, List.getElem?_eq_getElem h]
  rfl
theorem rd_T90_set {l : List (S90)} {i : Nat} {v : S90} (h : i < l.length) : rd_T90 (l.set i v) (i : Int) = v := by
  rw [rd_T90_at (by simpa using h)]
  simp
theorem laws_szMark.is (x : S90) (a : Int) (hx : x.f2.f2.size ≤ 9223372036854775807) (h0 : 0 ≤ a) (h1 : a ≤ 1048576) : laws_szMark.f x.f0 x.f1 x.f2.f0 x.f2.f1 x.f2.f2 a = some (if a - (x.f2.f2.size : Int) < 0 then -1 else a - (x.f2.f2.size : Int)) := by
  unfold laws_szMark.f; unfold laws_szReply.f
  rw [wrap_id (by omega) (by omega)]
  by_cases h : a - (x.f2.f2.size : Int) < 0
  · rw [if_pos h, if_pos h]; rfl
  · rw [if_neg h, if_neg h]; exact if_neg h
theorem laws_szMarkS.l0_ev (l : List (S90)) (hl : l.length ≤ 4611686018427387904) (hx : ∀ x ∈ l, x.f2.f2.size ≤ 9223372036854775807) (d : Nat) : ∀ (i : Nat) (a : Int), i + d = l.length → 0 ≤ a → a ≤ 1048576 → ∃ r : Int, Ev (fun k => laws_szMarkS.l0 k l a (i : Int)) r ∧ (0 ≤ r → r ≤ a ∧ ∀ x ∈ l.drop i, (x.f2.f2.size : Int) ≤ a) := by
  induction d with
  | zero =>
    intro i a h h0 h1
    refine ⟨a, ev_done fun k => ?_, fun _ => ⟨Int.le_refl _, ?_⟩⟩
    · simp only [laws_szMarkS.l0]; rw [if_neg (by omega)]
    · rw [drop_end (by omega)]; intro x hx; cases hx
  | succ d ih =>
    intro i a h h0 h1
    have hi : i < l.length := by omega
    have hxi := hx l[i] (List.getElem_mem hi)
    by_cases hn : a - (l[i].f2.f2.size : Int) < 0
    · refine ⟨-1, ev_done fun k => ?_, by omega⟩
      simp only [laws_szMarkS.l0]; rw [if_pos (by omega), if_pos (by omega), rd_T90_at hi, laws_szMark.is _ _ hxi h0 h1, if_pos hn]; simp only [Option.bind_some]; rw [if_pos (by omega)]
    · obtain ⟨r, hr, hq⟩ := ih (i + 1) (a - (l[i].f2.f2.size : Int)) (by omega) (by omega) (by omega)
      refine ⟨r, ev_step (fun k => laws_szMarkS.l0 k l (a - (l[i].f2.f2.size : Int)) ((i + 1 : Nat) : Int)) (fun k => ?_) hr, fun hr0 => ?_⟩
      · simp only [laws_szMarkS.l0]; rw [if_pos (by omega), if_pos (by omega), rd_T90_at hi, laws_szMark.is _ _ hxi h0 h1, if_neg hn]; simp only [Option.bind_some]; rw [if_neg (by omega), wrap_up hi hl]
      · obtain ⟨h2, h3⟩ := hq hr0
        refine ⟨by omega, fun x hx' => ?_⟩
        rw [drop_at hi] at hx'
        rcases List.mem_cons.1 hx' with rfl | hx'
        · omega
        · have := h3 x hx'; omega
theorem laws_szMarkS.ev (l : List (S90)) (a : Int) (hl : l.length ≤ 9223372036854775807) (hx : ∀ x ∈ l, x.f2.f2.size ≤ 9223372036854775807) (h0 : 0 ≤ a) (h1 : a ≤ 1048576) : ∃ r : Int, Ev (fun k => laws_szMarkS.f k l a) r ∧ (0 ≤ r → r ≤ a ∧ (l.length : Int) ≤ a ∧ ∀ x ∈ l, (x.f2.f2.size : Int) ≤ a) := by
  unfold laws_szMarkS.f
  by_cases h : a - (l.length : Int) < 0
  · refine ⟨-1, ev_is fun k => ?_, by omega⟩
    rw [wrap_id (by omega) (by omega), if_pos h]
  · obtain ⟨r, hr, hq⟩ := laws_szMarkS.l0_ev l (by omega) hx l.length 0 (a - (l.length : Int)) (by omega) (by omega) (by omega)
    refine ⟨r, ev_cong (fun k => ?_) hr, fun hr0 => ?_⟩
    · rw [wrap_id (by omega) (by omega), if_neg h]; rfl
    · obtain ⟨h2, h3⟩ := hq hr0
      rw [List.drop_zero] at h3
      exact ⟨by omega, by omega, fun x hx' => by have := h3 x hx'; omega⟩
theorem laws_toSessionS.l0_ev (l : List (S92)) (hl : l.length ≤ 4611686018427387904) (d : Nat) : ∀ (i : Nat) (m : List (S72)), i + d = l.length → m.length = l.length → m.take i = (l.map cvSession).take i → Ev (fun k => laws_toSessionS.l0 k l m (i : Int)) (l.map cvSession) := by
  induction d with
  | zero =>
    intro i m h hm ht
    have e : m = (l.map cvSession) := by rw [List.take_of_length_le (by omega), List.take_of_length_le (by rw [List.length_map]; omega)] at ht; exact ht
    exact ev_done fun k => by simp only [laws_toSessionS.l0]; rw [if_neg (by omega), e]
  | succ d ih =>
    intro i m h hm ht
    have hi : i < l.length := by omega
    have hi' : i < (l.map cvSession).length := by rw [List.length_map]; omega
    have hv : (l.map cvSession)[i] = (cvSession l[i]) := by rw [List.getElem_map]
    refine ev_step (fun k => laws_toSessionS.l0 k l (m.set i (cvSession l[i])) ((i + 1 : Nat) : Int)) (fun k => ?_) (ih (i + 1) (m.set i (cvSession l[i])) (by omega) (by rw [List.length_set]; exact hm) ?_)
    · simp only [laws_toSessionS.l0]; rw [if_pos (by omega), if_pos (by omega), rd_T92_at hi, laws_toSession.is]; simp only [Option.bind_some]; rw [if_pos (by omega), wrap_up hi hl, Int.toNat_natCast]; rfl
    · exact take_set_next (by omega) hi' ht hv
theorem laws_toSessionS.ev (l : List (S92)) (hl : l.length ≤ 1048576) : Ev (fun k => laws_toSessionS.f k l) (l.map cvSession) := by
  unfold laws_toSessionS.f
  refine ev_cong (f := fun k => laws_toSessionS.l0 k l (List.replicate l.length z72) ((0 : Nat) : Int)) (fun k => ?_) (laws_toSessionS.l0_ev l (by omega) l.length 0 _ (by omega) (by simp) (by simp))
  rw [if_pos (by omega), if_pos (by rw [Int.toNat_natCast]; omega), Int.toNat_natCast]; rfl
theorem laws_toMarkS.l0_ev (l : List (S90)) (hl : l.length ≤ 4611686018427387904) (d : Nat) : ∀ (i : Nat) (m : List (S74)), i + d = l.length → m.length = l.length → m.take i = (l.map cvMark).take i → Ev (fun k => laws_toMarkS.l0 k l m (i : Int)) (l.map cvMark) := by
  induction d with
  | zero =>
    intro i m h hm ht
    have e : m = (l.map cvMark) := by rw [List.take_of_length_le (by omega), List.take_of_length_le (by rw [List.length_map]; omega)] at ht; exact ht
    exact ev_done fun k => by simp only [laws_toMarkS.l0]; rw [if_neg (by omega), e]
  | succ d ih =>
    intro i m h hm ht
    have hi : i < l.length := by omega
    have hi' : i < (l.map cvMark).length := by rw [List.length_map]; omega
    have hv : (l.map cvMark)[i] = (cvMark l[i]) := by rw [List.getElem_map]
    refine ev_step (fun k => laws_toMarkS.l0 k l (m.set i (cvMark l[i])) ((i + 1 : Nat) : Int)) (fun k => ?_) (ih (i + 1) (m.set i (cvMark l[i])) (by omega) (by rw [List.length_set]; exact hm) ?_)
    · simp only [laws_toMarkS.l0]; rw [if_pos (by omega), if_pos (by omega), rd_T90_at hi, laws_toMark.is]; simp only [Option.bind_some]; rw [if_pos (by omega), wrap_up hi hl, Int.toNat_natCast]; rfl
    · exact take_set_next (by omega) hi' ht hv
theorem laws_toMarkS.ev (l : List (S90)) (hl : l.length ≤ 1048576) : Ev (fun k => laws_toMarkS.f k l) (l.map cvMark) := by
  unfold laws_toMarkS.f
  refine ev_cong (f := fun k => laws_toMarkS.l0 k l (List.replicate l.length z74) ((0 : Nat) : Int)) (fun k => ?_) (laws_toMarkS.l0_ev l (by omega) l.length 0 _ (by omega) (by simp) (by simp))
  rw [if_pos (by omega), if_pos (by rw [Int.toNat_natCast]; omega), Int.toNat_natCast]; rfl
theorem rd_T72_at {l : List (S72)} {i : Nat} (h : i < l.length) : rd_T72 l (i : Int) = l[i] := by
  unfold rd_T72
  rw [Int.toNat_natCast, List.getD_eq_getElem?_getD, List.getElem?_eq_getElem h]
  rfl
theorem rd_T72_set {l : List (S72)} {i : Nat} {v : S72} (h : i < l.length) : rd_T72 (l.set i v) (i : Int) = v := by
  rw [rd_T72_at (by simpa using h)]
  simp
theorem laws_eqSessionS.l0_ev (l : List (S72)) (hl : l.length ≤ 4611686018427387904) (d : Nat) : ∀ (i : Nat), i + d = l.length → Ev (fun k => laws_eqSessionS.l0 k l l (i : Int)) true := by
  induction d with
  | zero => exact fun i h => ev_done fun k => by simp only [laws_eqSessionS.l0]; rw [if_neg (by omega)]
  | succ d ih =>
    intro i h
    have hi : i < l.length := by omega
    refine ev_step (fun k => laws_eqSessionS.l0 k l l ((i + 1 : Nat) : Int)) (fun k => ?_) (ih (i + 1) (by omega))
    simp only [laws_eqSessionS.l0]; rw [if_pos (by omega), if_pos (by omega), if_pos (by omega), laws_eqSession.is, Option.bind_some, if_pos rfl, wrap_up hi hl]
theorem laws_eqSessionS.ev (l : List (S72)) (hl : l.length ≤ 4611686018427387904) : Ev (fun k => laws_eqSessionS.f k l l) true := by
  unfold laws_eqSessionS.f
  exact ev_cong (fun k => if_pos rfl) (laws_eqSessionS.l0_ev l hl l.length 0 (by omega))
theorem rd_T74_at {l : List (S74)} {i : Nat} (h : i < l.length) : rd_T74 l (i : Int) = l[i] := by
  unfold rd_T74
  rw [Int.toNat_natCast, List.getD_eq_getElem?_getD, List.getElem?_eq_getElem h]
  rfl
theorem rd_T74_set {l : List (S74)} {i : Nat} {v : S74} (h : i < l.length) : rd_T74 (l.set i v) (i : Int) = v := by
  rw [rd_T74_at (by simpa using h)]
  simp
theorem laws_eqMarkS.l0_ev (l : List (S74)) (hl : l.length ≤ 4611686018427387904) (d : Nat) : ∀ (i : Nat), i + d = l.length → Ev (fun k => laws_eqMarkS.l0 k l l (i : Int)) true := by
  induction d with
  | zero => exact fun i h => ev_done fun k => by simp only [laws_eqMarkS.l0]; rw [if_neg (by omega)]
  | succ d ih =>
    intro i h
    have hi : i < l.length := by omega
    refine ev_step (fun k => laws_eqMarkS.l0 k l l ((i + 1 : Nat) : Int)) (fun k => ?_) (ih (i + 1) (by omega))
    simp only [laws_eqMarkS.l0]; rw [if_pos (by omega), if_pos (by omega), if_pos (by omega), laws_eqMark.is, Option.bind_some, if_pos rfl, wrap_up hi hl]
theorem laws_eqMarkS.ev (l : List (S74)) (hl : l.length ≤ 4611686018427387904) : Ev (fun k => laws_eqMarkS.f k l l) true := by
  unfold laws_eqMarkS.f
  exact ev_cong (fun k => if_pos rfl) (laws_eqMarkS.l0_ev l hl l.length 0 (by omega))
end Go.Proofs.Ytlfhpljeeedbdaa.Qa

/- Comparisons of slices of structs, element by element: the program's (slices.Equal) and the reference's: the same. -/
namespace Go.Proofs.Ytlfhpljeeedbdaa.Pure
open Go.RowKit Go.Proofs.Ytlfhpljeeedbdaa.Qa Go.Proofs.YtlfhpljeeedbdaaW.PrintWords Go.Proofs.YtlfhpljeeedbdaaW.PrintLast Go.Proofs.Ytlfhpljeeedbdaa.Aid
def sameL {α : Type} (ne : α → α → Bool) : List α → List α → Bool
  | x :: l, y :: m => if ne x y = true then false else sameL ne l m
  | _, _ => true
def sameR {α : Type} (ne : α → α → Bool) (l m : List α) : Bool := if l.length = m.length then sameL ne l m else false
theorem sameL_cons {α : Type} {ne : α → α → Bool} {x y : α} {l m : List α} : sameL ne (x :: l) (y :: m) = if ne x y = true then false else sameL ne l m := rfl
def neOp (x y : S66) : Bool := (!(x.f0 == y.f0) || (!((x.f1).toList == (y.f1).toList) || (!(x.f2 == y.f2) || (!(x.f3 == y.f3) || (!(x.f4 == y.f4) || (!(x.f5 == y.f5)))))))
theorem slices_Equal_impl_Op_impl_Op.l0_ev (l m : List S66) (hl : l.length ≤ 4611686018427387904) (he : l.length = m.length) (d : Nat) : ∀ (i : Nat), i + d = l.length → Ev (fun k => slices_Equal_impl_Op_impl_Op.l0 k l m (l.length : Int) (i : Int)) (sameL neOp (l.drop i) (m.drop i)) := by
  induction d with
  | zero =>
    intro i h
    rw [drop_end (by omega)]
    exact ev_done fun k => by simp only [slices_Equal_impl_Op_impl_Op.l0]; rw [if_neg (by omega)]; rfl
  | succ d ih =>
    intro i h
    have hi : i < l.length := by omega
    have hi' : i < m.length := by omega
    have IH := ih (i + 1) (by omega)
    rw [drop_at hi, drop_at hi', sameL_cons]
    by_cases c : neOp l[i] m[i] = true
    · rw [if_pos c]
      refine ev_done fun k => ?_
      simp only [slices_Equal_impl_Op_impl_Op.l0]; rw [if_pos (by omega), if_pos (by omega), if_pos (by omega), if_pos (by omega), rd_T66_at hi, rd_T66_at hi']; exact if_pos c
    · rw [if_neg c]
      refine ev_step (fun k => slices_Equal_impl_Op_impl_Op.l0 k l m (l.length : Int) ((i + 1 : Nat) : Int)) (fun k => ?_) IH
      simp only [slices_Equal_impl_Op_impl_Op.l0]; rw [if_pos (by omega), if_pos (by omega), if_pos (by omega), if_pos (by omega), rd_T66_at hi, rd_T66_at hi', wrap_up hi hl]; exact if_neg c
theorem equalOp (l m : List S66) (hl : l.length ≤ 4611686018427387904) : Ev (fun k => slices_Equal_impl_Op_impl_Op.f k l m) (sameR neOp l m) := by
  unfold slices_Equal_impl_Op_impl_Op.f sameR
  by_cases he : l.length = m.length
  · rw [if_pos he]
    exact ev_cong (fun k => if_pos (by omega)) (slices_Equal_impl_Op_impl_Op.l0_ev l m hl he l.length 0 (by omega))
  · rw [if_neg he]
    exact ev_is fun k => if_neg (by omega)
theorem spec_SameRequests.l0_ev (a0 a1 a2 b0 b1 b2 : Int) (l m : List S66) (hl : l.length ≤ 4611686018427387904) (he : l.length = m.length) (d : Nat) : ∀ (i : Nat), i + d = l.length → Ev (fun k => spec_SameRequests.l0 k (i : Int) a0 a1 a2 l b0 b1 b2 m) (sameL neOp (l.drop i) (m.drop i)) := by
  induction d with
  | zero =>
    intro i h
    rw [drop_end (by omega)]
    exact ev_done fun k => by simp only [spec_SameRequests.l0]; rw [if_neg (by omega)]; rfl
  | succ d ih =>
    intro i h
    have hi : i < l.length := by omega
    have hi' : i < m.length := by omega
    have IH := ih (i + 1) (by omega)
    rw [drop_at hi, drop_at hi', sameL_cons]
    by_cases c : neOp l[i] m[i] = true
    · rw [if_pos c]
      refine ev_done fun k => ?_
      simp only [spec_SameRequests.l0]; rw [if_pos (by omega), if_pos (by omega), if_pos (by omega), rd_T66_at hi, rd_T66_at hi']; exact if_pos c
    · rw [if_neg c]
      refine ev_step (fun k => spec_SameRequests.l0 k ((i + 1 : Nat) : Int) a0 a1 a2 l b0 b1 b2 m) (fun k => ?_) IH
      simp only [spec_SameRequests.l0]; rw [if_pos (by omega), if_pos (by omega), if_pos (by omega), rd_T66_at hi, rd_T66_at hi', wrap_up hi hl]; exact if_neg c
def reqR (a0 a1 a2 : Int) (l : List S66) (b0 b1 b2 : Int) (m : List S66) : Bool := if a0 = b0 then (if a1 = b1 then (if a2 = b2 then sameR neOp l m else false) else false) else false
theorem SameRequests_spec (a0 a1 a2 : Int) (l : List S66) (b0 b1 b2 : Int) (m : List S66) (hl : l.length ≤ 4611686018427387904) : Ev (fun k => spec_SameRequests.f k a0 a1 a2 l b0 b1 b2 m) (reqR a0 a1 a2 l b0 b1 b2 m) := by
  have no : Ev (fun k => spec_SameRequests.j0 k true a0 a1 a2 l b0 b1 b2 m) false := ev_done fun k => by simp only [spec_SameRequests.j0]; exact if_pos trivial
  unfold spec_SameRequests.f reqR
  by_cases h0 : a0 = b0
  · rw [if_pos h0]
    refine ev_cong (fun k => if_pos h0) ?_
    by_cases h1 : a1 = b1
    · rw [if_pos h1]
      refine ev_cong (fun k => if_pos h1) ?_
      by_cases h2 : a2 = b2
      · rw [if_pos h2]
        refine ev_cong (fun k => if_pos h2) ?_
        unfold sameR
        by_cases he : l.length = m.length
        · rw [if_pos he]
          refine ev_step (fun k => spec_SameRequests.l0 k ((0 : Nat) : Int) a0 a1 a2 l b0 b1 b2 m) (fun k => ?_) (spec_SameRequests.l0_ev a0 a1 a2 b0 b1 b2 l m hl he l.length 0 (by omega))
          simp only [spec_SameRequests.j0]; rw [if_neg (by simp [he])]; rfl
        · rw [if_neg he]
          refine ev_done fun k => ?_
          simp only [spec_SameRequests.j0]; rw [if_pos (by simpa using fun h => he (by omega))]
      · rw [if_neg h2]
        exact ev_cong (fun k => if_neg h2) no
    · rw [if_neg h1]
      exact ev_cong (fun k => if_neg h1) no
  · rw [if_neg h0]
    exact ev_cong (fun k => if_neg h0) no
theorem SameRequests_impl (a0 a1 a2 : Int) (l : List S66) (b0 b1 b2 : Int) (m : List S66) (hl : l.length ≤ 4611686018427387904) : Ev (fun k => impl_SameRequests.f k a0 a1 a2 l b0 b1 b2 m) (reqR a0 a1 a2 l b0 b1 b2 m) := by
  unfold impl_SameRequests.f reqR
  by_cases h0 : a0 = b0
  · rw [if_pos h0]
    refine ev_cong (fun k => if_pos h0) ?_
    by_cases h1 : a1 = b1
    · rw [if_pos h1]
      refine ev_cong (fun k => if_pos h1) ?_
      by_cases h2 : a2 = b2
      · rw [if_pos h2]
        exact ev_cong (fun k => if_pos h2) (ev_call (equalOp l m hl) (Ev.now _))
      · rw [if_neg h2]
        exact ev_is fun k => if_neg h2
    · rw [if_neg h1]
      exact ev_is fun k => if_neg h1
  · rw [if_neg h0]
    exact ev_is fun k => if_neg h0
end Go.Proofs.Ytlfhpljeeedbdaa.Pure

/- SameRequests: the program's answer is the reference's, for all two requests; it writes into no argument. No condition. -/
namespace Go.Proofs.Ytlfhpljeeedbdaa.Pure
open Go.RowKit Go.Proofs.Ytlfhpljeeedbdaa.Qa Go.Proofs.YtlfhpljeeedbdaaW.PrintWords Go.Proofs.YtlfhpljeeedbdaaW.PrintLast Go.Proofs.Ytlfhpljeeedbdaa.Aid
theorem toRequest_ev (x : S30) (hl : x.f3.length ≤ 1048576) : Ev (fun k => laws_toRequest.f k x.f0 x.f1 x.f2 x.f3) (x.f0, x.f1, x.f2, x.f3.map cvOp) := by
  unfold laws_toRequest.f
  exact ev_call (laws_toOpS.ev x.f3 hl) (Ev.now _)
theorem eqRequest_ev (a b c : Int) (l : List S66) (hl : l.length ≤ 4611686018427387904) : Ev (fun k => laws_eqRequest.f k a b c l a b c l) true := by
  unfold laws_eqRequest.f
  exact ev_cong (fun k => (if_pos rfl).trans ((if_pos rfl).trans (if_pos rfl))) (ev_call (laws_eqOpS.ev l hl) (ev_is fun k => if_pos rfl))
theorem szRequest_ev (x : S30) (a : Int) (hx : g30 x) (h0 : 0 ≤ a) (h1 : a ≤ 1048576) : ∃ r : Int, Ev (fun k => laws_szRequest.f k x.f0 x.f1 x.f2 x.f3 a) r ∧ (0 ≤ r → r ≤ a ∧ (x.f3.length : Int) ≤ a) := by
  unfold laws_szRequest.f
  obtain ⟨r, hr, hq⟩ := laws_szOpS.ev x.f3 a (by have := hx; simp only [g30] at this; omega) (fun y hy => by have := hx; simp only [g30] at this; have h2 := this.2.2.2.2; first | exact (h2 y hy).2.1 | exact (h2 y hy).1 | exact (this.2.2.2.2 y hy)) h0 h1
  by_cases h : r < 0
  · exact ⟨-1, ev_call hr (ev_is fun k => if_pos h), by omega⟩
  · exact ⟨r, ev_call hr (ev_is fun k => if_neg h), fun h3 => by have := hq h3; omega⟩
theorem FnExactSameRequests (x y : S30) (hx : g30 x) (hy : g30 y) : ∃ k, laws_FnExactSameRequests.f k x.f0 x.f1 x.f2 x.f3 y.f0 y.f1 y.f2 y.f3 = some true := by
  refine Ev.rounds ?_
  unfold laws_FnExactSameRequests.f
  obtain ⟨r, hr, hq⟩ := szRequest_ev x 1048576 hx (by omega) (by omega)
  refine ev_call hr ?_
  by_cases h : r < 0
  · exact ev_is fun k => if_pos h
  · refine ev_cong (fun k => if_neg h) ?_
    obtain ⟨h1, h2⟩ := hq (by omega)
    obtain ⟨r', hr', hq'⟩ := szRequest_ev y r hy (by omega) (by omega)
    refine ev_step _ (fun k => by simp only [laws_FnExactSameRequests.j0]; rfl) ?_
    refine ev_call hr' ?_
    by_cases h' : r' < 0
    · exact ev_is fun k => if_pos h'
    · refine ev_cong (fun k => if_neg h') ?_
      obtain ⟨h3, h4⟩ := hq' (by omega)
      have tl := toRequest_ev x (by omega)
      have tm := toRequest_ev y (by omega)
      have ll : (x.f3.map cvOp).length ≤ 4611686018427387904 := by rw [List.length_map]; omega
      have lm : (y.f3.map cvOp).length ≤ 4611686018427387904 := by rw [List.length_map]; omega
      refine ev_step _ (fun k => by simp only [laws_FnExactSameRequests.j1]; rfl) ?_
      refine ev_call tl (ev_call tm (ev_call (SameRequests_spec _ _ _ _ _ _ _ _ ll) (ev_call tl (ev_call tm (ev_call (SameRequests_impl _ _ _ _ _ _ _ _ ll) (ev_cong (fun k => if_neg (by simp)) ?_))))))
      refine ev_step _ (fun k => by simp only [laws_FnExactSameRequests.j2]; rfl) ?_
      refine ev_call tl (ev_call (eqRequest_ev _ _ _ _ ll) (ev_cong (fun k => if_pos rfl) ?_))
      refine ev_step _ (fun k => by simp only [laws_FnExactSameRequests.j3]; rfl) ?_
      exact ev_call tm (ev_call (eqRequest_ev _ _ _ _ lm) (ev_is fun k => if_pos rfl))
end Go.Proofs.Ytlfhpljeeedbdaa.Pure

/- For every input the law loop.example/g00369/laws.FnExactSameRequests returns true, and every argument reads behind the call as it read before. No condition. -/
namespace Go.Proofs.Ytlfhpljeeedbdaa.fnExactSameRequests
open Go.ChangeShapes Go.WideShapes Go.ChangeAt Go.RowKit Go.Proofs.Ytlfhpljeeedbdaa.Qa Go.Proofs.Ytlfhpljeeedbdaa.Tro Go.Proofs.YtlfhpljeeedbdaaW.PrintWords
open Go.ChangeMaps (open_string shut_string)
set_option linter.unusedVariables false
set_option linter.unusedSimpArgs false
theorem own : ownKnob Try.prog.godebug = none := by kernel_rfl
theorem laidOut : laidOutB Try.prog = true := by kernel_rfl
set_option maxRecDepth 100000 in
theorem lifted (os : Os) (started : os.Started) (H : Type) (enc : TypeId × Value → H) :
    ReturnsInHanded {} Try.checked os 4 .any (Rows.fnExactSameRequestsSpec.pre6 enc Try.prog Try.f4 Rows.fnExactSameRequestsRow.domain false) (Rows.fnExactSameRequestsSpec.post enc Try.prog Try.f4 false true false false) := by
  refine returnsInHanded_of_change_sized (C := Try.checked) own started (by kernel_rfl) Try.func4
    (ChangeSpec.witness6 (enc := enc) (C := Try.checked) false ⟨#[], #[.agg #[.int .i64 0, .int .i64 0, .int .i64 0, .slice none 0 0], .agg #[.int .i64 0, .int .i64 0, .int .i64 0, .slice none 0 0]], []⟩ 8 (by kernel_rfl) (by kernel_rfl) (by kernel_rfl) (by kernel_rfl)) ?_
  intro W base args ds gs before hval0 hW hcnd hsz0 _
  have hval : ∀ (j : Nat) t v, Try.f4.params[j]? = some t → args[j]? = some v → Value.okWide Try.prog W .any base t v := hval0
  have hW' := hW
  obtain ⟨p, q, hA0, hV, rfl, hfz, hnd⟩ := hW
  have hA : DataW.TrodAll enc Try.prog W 0 (fun _ => true) true Try.f4.params.toList args.toList ds p := hA0
  rw [Try.params4] at hA hval
  obtain ⟨v0, vs0, d0, ds0, p0, q0, hargs, rfl, rfl, h0, r0⟩ := trodAll_cons hA
  obtain ⟨v1, vs1, d1, ds1, p1, q1, rfl, rfl, rfl, h1, r1⟩ := trodAll_cons r0
  obtain ⟨rfl, rfl, rfl⟩ := trodAll_nil r1
  obtain rfl : args = #[v0, v1] := by cases args; simp_all
  obtain ⟨rfl, rfl⟩ := trodVars_none hV
  have k0 := h0
  have lt0 : ∀ x ∈ p0, x.block < W.heap.size := by obtain ⟨m, hm⟩ := k0; exact DataW.trod_lt m _ _ _ hm
  obtain ⟨cs0, rfl, hsz0⟩ := okWide_struct Try.underlying30 (hval 0 30 v0 rfl rfl)
  obtain ⟨fuel0, hf0⟩ := h0
  obtain ⟨x0, hK0, hg0⟩ := tr30 enc W _ _ _ hf0
  obtain ⟨A0_3, c0_3, hcs0, hl0_3, hC0_3⟩ := k30_open hK0
  have hcs0' : cs0 = #[.int .i64 x0.f0, .int .i64 x0.f1, .int .i64 x0.f2, .slice A0_3 x0.f3.length c0_3] := Array.toList_inj.1 hcs0
  subst hcs0'
  have k1 := h1
  have lt1 : ∀ x ∈ p1, x.block < W.heap.size := by obtain ⟨m, hm⟩ := k1; exact DataW.trod_lt m _ _ _ hm
  obtain ⟨cs1, rfl, hsz1⟩ := okWide_struct Try.underlying30 (hval 1 30 v1 rfl rfl)
  obtain ⟨fuel1, hf1⟩ := h1
  obtain ⟨x1, hK1, hg1⟩ := tr30 enc W _ _ _ hf1
  obtain ⟨A1_3, c1_3, hcs1, hl1_3, hC1_3⟩ := k30_open hK1
  have hcs1' : cs1 = #[.int .i64 x1.f0, .int .i64 x1.f1, .int .i64 x1.f2, .slice A1_3 x1.f3.length c1_3] := Array.toList_inj.1 hcs1
  subst hcs1'
  obtain ⟨k, hk⟩ := Pure.FnExactSameRequests x0 x1 hg0 hg1
  refine (laws_FnExactSameRequests.calls k x0.f0 x0.f1 x0.f2 _ _ x0.f3 x1.f0 x1.f1 x1.f2 _ _ x1.f3 true W hC0_3 hl0_3 hC1_3 hl1_3 hk).mono fun e W' hE => ?_
  obtain ⟨he, hd⟩ := hE
  have bel : Below W.heap.size W W' := hd
  subst he
  exact ⟨_, rfl, _, _, _, [], _, [], hW', trodAll_mk1 (shut_bool Try.underlying4 _), (trodAll_cons_mk (Below.trod laidOut (by kernel_rfl) (of_decide_eq_true (by kernel_rfl)) k0 bel lt0) (trodAll_cons_mk (Below.trod laidOut (by kernel_rfl) (of_decide_eq_true (by kernel_rfl)) k1 bel lt1) trodAll_mk0)), rfl, bel.frame _, fun h => by cases h⟩
theorem over : Rows.fnExactSameRequestsRow.holds Try.pinned (OpenSpec.ofChange Rows.fnExactSameRequestsSpec) :=
  OpenClaim.holds_of_wide 4 Try.f4 rfl rfl rfl rfl rfl rfl rfl ⟨rfl, rfl, rfl, rfl, rfl⟩ rfl rfl rfl rfl rfl (by kernel_rfl) Try.func4 (by kernel_rfl)
    (of_decide_eq_true (by kernel_rfl)) (by unfold Func.isWrapper; first | (rw [if_pos (by decide +kernel)]; kernel_rfl) | (rw [if_neg (by decide +kernel)]; exact ⟨rfl, rfl⟩))
    (fun os started H enc _ => lifted os started H enc)
theorem proved : Rows.FnExactSameRequestsSaid := over
#print axioms proved
end Go.Proofs.Ytlfhpljeeedbdaa.fnExactSameRequests
namespace Go.Proofs.Ytlfhpljeeedbdaa
/-- The row, under a short name, for the claim. -/
theorem fnExactSameRequests_holds : Rows.FnExactSameRequestsSaid := fnExactSameRequests.proved
end Go.Proofs.Ytlfhpljeeedbdaa
