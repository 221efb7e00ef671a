/- A part of the proof that for every input the law FnSets returns true: no condition. Functions of the translation, each proved to do what a plain Lean function tells, and what these tell. -/
import Derived.Test.YtegggpipggniaaaDoorQax0
import Derived.Test.YtegggpipggniaaaDoorQax23
import Derived.Test.YtegggpipggniaaaDoorQax24
import Derived.Test.YtegggpipggniaaaDoorQax25
import Derived.Test.YtegggpipggniaaaDoorZFnSetsa
import Derived.Test.YtegggpipggniaaaDoorQax26
import Derived.Test.YtegggpipggniaaaDoorQax6
import Derived.Test.YtegggpipggniaaaDoorQax8
import Derived.Test.YtegggpipggniaaaDoorQax21
namespace Go.Proofs.YtegggpipggniaaaDoor.Qa
open Go.RowKit Go.Proofs.YtegggpipggniaaaDoorW.PrintWords Go.Proofs.YtegggpipggniaaaDoorW.PrintLast Go.Proofs.YtegggpipggniaaaDoorW.PrintMore
attribute [local go_sem] max2_int min2_int max_two min_two max_three min_three max_four min_four
set_option linter.unusedVariables false
set_option linter.unusedSimpArgs false
set_option maxHeartbeats 8000000
set_option maxRecDepth 100000
def spec_l2Right.l0 : Nat → List (S32) → Int → List Int → Int → Option ((List (S32)) × Int)
 | 0, _, _, _, _ => none
 | k + 1, x3, x4, x1000, x1001 => if x4 > 0 then ((spec_l1Draw.f k x1000 x1001).bind fun bt110 => ((spec_l1Next.f x1000 bt110.2 99).bind fun bt112 => ((spec_l1Pick.f x1000 bt112.2 (([0, 0, 1, 2] : List Int))).bind fun bt117 => ((spec_l1Chance.f x1000 bt117.2 5).bind fun bt119 => ((spec_l2Create.f k x3 bt110.1 bt112.1 bt117.1 bt119.1).bind fun bt121 => ((spec_l1Next.f x1000 bt119.2 6).bind fun bt127 => (if bt127.1 = 0 then ((spec_l1Next.f x1000 bt127.2 99).bind fun bt129 => ((spec_l2Set.f k x3 bt110.1 bt129.1 (-1)).bind fun bt131 => (if bt131.1 = 0 then (spec_l2Right.l0 k bt131.2.2 (wrap64 (x4 - 1)) x1000 bt129.2) else (spec_l2Right.l0 k x3 (wrap64 (x4 - 1)) x1000 bt129.2)))) else (if bt127.1 = 1 then ((spec_l2Delete.f k x3 bt110.1 (-1)).bind fun bt136 => (if bt136.1 = 0 then (spec_l2Right.l0 k bt136.2.2 (wrap64 (x4 - 1)) x1000 bt127.2) else (spec_l2Right.l0 k x3 (wrap64 (x4 - 1)) x1000 bt127.2))) else (if bt121.1 = 0 then (spec_l2Right.l0 k bt121.2.2 (wrap64 (x4 - 1)) x1000 bt127.2) else (spec_l2Right.l0 k x3 (wrap64 (x4 - 1)) x1000 bt127.2)))))))))) else (some (x3, x1001))
def spec_l2Right.f (k : Nat) (s0_0 : List Int) (s0_1 : Int) : Option ((List (S32)) × Int) := (spec_l1Next.f s0_0 s0_1 9).bind fun bt101 => ((spec_NewTree.f bt101.1).bind fun bt103 => ((spec_l1Next.f s0_0 bt101.2 12).bind fun bt108 => (spec_l2Right.l0 k bt103.2.2 bt108.1 s0_0 bt108.2)))
theorem spec_l2Right.mono_l : ∀ k, (∀ y0 y1 y2 y3, LeO (spec_l2Right.l0 k y0 y1 y2 y3) (spec_l2Right.l0 (k + 1) y0 y1 y2 y3))
 | 0 => fun _ _ _ _ r h => by simp [spec_l2Right.l0] at h
 | k + 1 => by
  have ih0 := spec_l2Right.mono_l k
  ·
   intro y0 y1 y2 y3
   unfold spec_l2Right.l0
   with_reducible repeat' first | exact ih0 _ _ _ _ | exact spec_l1Draw.mono _ _ _ | exact spec_l2Create.mono _ _ _ _ _ _ | exact spec_l2Delete.mono _ _ _ _ | exact spec_l2Set.mono _ _ _ _ _ | exact LeO.refl _ | exact LeO.none _ | refine LeO.ite ?_ ?_ | refine LeO.bind ?_ (fun _ => ?_)
theorem spec_l2Right.mono : ∀ a0 a1 k, LeO (spec_l2Right.f k a0 a1) (spec_l2Right.f (k + 1) a0 a1) := by
 intro a0 a1 k
 have ih0 := spec_l2Right.mono_l k
 unfold spec_l2Right.f
 with_reducible repeat' first | exact ih0 _ _ _ _ | exact spec_l1Draw.mono _ _ _ | exact spec_l2Create.mono _ _ _ _ _ _ | exact spec_l2Delete.mono _ _ _ _ | exact spec_l2Set.mono _ _ _ _ _ | exact LeO.refl _ | exact LeO.none _ | refine LeO.ite ?_ ?_ | refine LeO.bind ?_ (fun _ => ?_)
theorem spec_l2Right.calls (k : Nat) (g : Nat) (s0_0 : List Int) (s0_1 : Int) (r1 : List (S32)) (r2 : Int) (w0 w : World) (hI : IsS80 w0 w g s0_0 s0_1) (hB : Below w0.heap.size w0 w) (h : spec_l2Right.f k s0_0 s0_1 = some (r1, r2)) :
  Calls Tryd.prog 72 #[.pointer (some ⟨g, 0, none⟩)] w fun e w' => ∃ v0_ : Value, e = .returned (v0_) ∧ Kd.R k32 32 w' w.heap.size (fun _ => True) v0_ r1 ∧ IsS80 w0 w' g s0_0 r2 ∧ Below w0.heap.size w0 w' ∧ KeepBut w w' g none := by
 have hfd28_0 : ∀ (v0_ v1_ v2_ : Value) (w_ : World), (Instr.field 28 (.agg #[v0_, v1_, v2_]) 0).run Tryd.prog w_ = .ok (v0_) w_ := fun _ _ _ _ => by kernel_rfl
 have hfd28_1 : ∀ (v0_ v1_ v2_ : Value) (w_ : World), (Instr.field 28 (.agg #[v0_, v1_, v2_]) 1).run Tryd.prog w_ = .ok (v1_) w_ := fun _ _ _ _ => by kernel_rfl
 have hfd28_2 : ∀ (v0_ v1_ v2_ : Value) (w_ : World), (Instr.field 28 (.agg #[v0_, v1_, v2_]) 2).run Tryd.prog w_ = .ok (v2_) w_ := fun _ _ _ _ => by kernel_rfl
 have hu28 := Tryd.underlying28
 have HI0 := aa hI
 have HK := aa (KeepBut.refl w g none)
 have HL := aa hB.size
 clear hI
 have HW0 := aa hB.size
 have HB := aa hB
 clear hB
 have H : ((spec_l1Next.f s0_0 s0_1 9).bind fun bt101 => ((spec_NewTree.f bt101.1).bind fun bt103 => ((spec_l1Next.f s0_0 bt101.2 12).bind fun bt108 => (spec_l2Right.l0 k bt103.2.2 bt108.1 s0_0 bt108.2)))) = some (r1, r2) := h
 clear h
 revert H
 refine ob2_ fun t101 t102 A2 H => ?_
 (try dsimp only at H)
 revert H
 refine ob3_ fun t103 t104 t105 A3 H => ?_
 (try dsimp only at H)
 revert H
 refine ob2_ fun t108 t109 A4 H => ?_
 (try dsimp only at H)
 have H' := aa H
 clear H
 go_enter Tryd.func72, Tryd.ntmps72
 go_wp2_with (first | (refine gc_ Tryd.func27 (some 8) #[.pointer (some ⟨g, 0, none⟩), .int .i64 9] ?_; (with_reducible refine (spec_l1Next.calls g s0_0 s0_1 9 t101 t102 w0 _ zhpbib zicchn A2.out).mono ?_); rintro e w5 ⟨rfl, hi, hb, hk⟩; refine ⟨_, rfl, ?_⟩; replace HK := aa (KeepBut.trans zncgdm hk (.inl rfl)); replace HB := aa (hb); replace HI0 := aa (hi); (try clear hb hk hi)) | (refine gc_ Tryd.func89 (some 9) #[.int .i64 t101] ?_; (with_reducible refine (spec_NewTree.calls t101 t103 t104 t105 _ A3.out).mono ?_); rintro e w6 ⟨v106, rfl, ho0, hb⟩; refine ⟨_, rfl, ?_⟩; have n0_ := aa (Kd.R_lower ho0 (keep_size (w := w) (g := g) (row := none) zncgdm)); have n1_ := aa (IsS80.below zhpbib hb); have n2_ := aa (KeepBut.trans zncgdm (KeepBut.of_below hb g none) (.inl rfl)); have n3_ := aa (below_step zicchn hb); clear HI0; clear HK; clear HB; have HO107 := n0_; have HI0 := n1_; have HK := n2_; have HB := n3_; clear n0_ n1_ n2_ n3_; (try clear hb hk hi ho0)) | (refine gc_ Tryd.func27 (some 12) #[.pointer (some ⟨g, 0, none⟩), .int .i64 12] ?_; (with_reducible refine (spec_l1Next.calls g s0_0 t102 12 t108 t109 w0 _ zhpbib zicchn A4.out).mono ?_); rintro e w7 ⟨rfl, hi, hb, hk⟩; refine ⟨_, rfl, ?_⟩; replace HO107 := aa (Kd.R_mono (Kd.R_keep (IsS80.apart (zhpbib : IsS80 w0 _ g s0_0 t102) (zcaken HO107.out) (by decide)) hk (fun _ h => h.2)) (fun _ h => h.1)); replace HK := aa (KeepBut.trans zncgdm hk (.inl rfl)); replace HB := aa (hb); replace HI0 := aa (hi); (try clear hb hk hi)))
 go_loopg [3, 4] k (fun kq v3 v4 w' => ∃ (x3_1 : List (S32)) (x4_1 : Int) (x1001_1 : Int), v4 = .int .i64 x4_1 ∧ Aside0 (spec_l2Right.l0 kq x3_1 x4_1 s0_0 x1001_1 = some (r1, r2)) ∧ Aside0 (kq ≤ k) ∧ Aside0 (Kd.R k32 32 w' w.heap.size (fun _ => True) v3 x3_1) ∧ Aside0 (IsS80 w0 w' g s0_0 x1001_1) ∧ Aside0 (KeepBut w w' g none) ∧ Aside0 (Below w0.heap.size w0 w'))
 case atStart => exact ⟨(t105), (t108), (t109), zagbkp, H', ⟨Nat.le_refl _⟩, ⟨zcaken HO107.out⟩, ⟨zhpbib⟩, ⟨zncgdm⟩, ⟨zicchn⟩⟩
 case round =>
  clear H'
  try clear p2
  obtain ⟨x3_1, x4_1, x1001_1, rfl, HA, HK1, HO_3, HI0, HK, HB⟩ := hrel
  cases gk with
  | zero => exact absurd HA.out (by simp [spec_l2Right.l0])
  | succ k1 =>
   have H := HA.out
   clear HA
   simp only [spec_l2Right.l0] at H
   revert H
   refine itC_ (fun c8 H => ?_) fun c8 H => ?_
   ·
    have c8b0 : decide (0 < x4_1) = true := decide_eq_true c8
    clear c8
    revert H
    refine ob2_ fun t110 t111 A9 H => ?_
    (try dsimp only at H)
    revert H
    refine ob2_ fun t112 t113 A10 H => ?_
    (try dsimp only at H)
    obtain ⟨y114, hy114⟩ : ∃ y_ : List Int, y_ = (([0, 0, 1, 2] : List Int)) := ⟨_, rfl⟩
    replace H : ((spec_l1Pick.f s0_0 t113 y114).bind fun bt117 => ((spec_l1Chance.f s0_0 bt117.2 5).bind fun bt119 => ((spec_l2Create.f k1 x3_1 t110 t112 bt117.1 bt119.1).bind fun bt121 => ((spec_l1Next.f s0_0 bt119.2 6).bind fun bt127 => (if bt127.1 = 0 then ((spec_l1Next.f s0_0 bt127.2 99).bind fun bt129 => ((spec_l2Set.f k1 x3_1 t110 bt129.1 (-1)).bind fun bt131 => (if bt131.1 = 0 then (spec_l2Right.l0 k1 bt131.2.2 (wrap64 (x4_1 - 1)) s0_0 bt129.2) else (spec_l2Right.l0 k1 x3_1 (wrap64 (x4_1 - 1)) s0_0 bt129.2)))) else (if bt127.1 = 1 then ((spec_l2Delete.f k1 x3_1 t110 (-1)).bind fun bt136 => (if bt136.1 = 0 then (spec_l2Right.l0 k1 bt136.2.2 (wrap64 (x4_1 - 1)) s0_0 bt127.2) else (spec_l2Right.l0 k1 x3_1 (wrap64 (x4_1 - 1)) s0_0 bt127.2))) else (if bt121.1 = 0 then (spec_l2Right.l0 k1 bt121.2.2 (wrap64 (x4_1 - 1)) s0_0 bt127.2) else (spec_l2Right.l0 k1 x3_1 (wrap64 (x4_1 - 1)) s0_0 bt127.2)))))))) = some (r1, r2) := by cases hy114; exact H
    have Ny114 := aa hy114
    clear hy114
    revert H
    refine ob2_ fun t117 t118 A11 H => ?_
    (try dsimp only at H)
    revert H
    refine ob2_ fun t119 t120 A12 H => ?_
    (try dsimp only at H)
    revert H
    refine ob3_ fun t121 t122 t123 A13 H => ?_
    (try dsimp only at H)
    revert H
    refine ob2_ fun t127 t128 A14 H => ?_
    (try dsimp only at H)
    revert H
    refine itE_ (fun c15b0 c15b1 H => ?_) fun c15b0 c15b1 H => ?_
    ·
     revert H
     refine ob2_ fun t129 t130 A16 H => ?_
     (try dsimp only at H)
     revert H
     refine ob3_ fun t131 t132 t133 A17 H => ?_
     (try dsimp only at H)
     revert H
     refine itE_ (fun c18b0 c18b1 H => ?_) fun c18b0 c18b1 H => ?_
     ·
      have H' := aa H
      clear H
      go_wp2_with (first | (refine gc_ Tryd.func73 (some 18) #[.pointer (some ⟨g, 0, none⟩)] ?_; (with_reducible refine (spec_l1Draw.calls k1 g s0_0 x1001_1 t110 t111 w0 _ zhpbib zicchn A9.out).mono ?_); rintro e w19 ⟨rfl, hi, hb, hk⟩; refine ⟨_, rfl, ?_⟩; replace HO_3 := aa (Kd.R_mono (Kd.R_keep (IsS80.apart (zhpbib : IsS80 w0 _ g s0_0 x1001_1) (zcaken HO_3.out) (by decide)) hk (fun _ h => h.2)) (fun _ h => h.1)); replace HK := aa (KeepBut.trans zncgdm hk (.inl rfl)); replace HB := aa (hb); replace HI0 := aa (hi); (try clear hb hk hi)) | (refine gc_ Tryd.func27 (some 22) #[.pointer (some ⟨g, 0, none⟩), .int .i64 99] ?_; (with_reducible refine (spec_l1Next.calls g s0_0 t111 99 t112 t113 w0 _ zhpbib zicchn A10.out).mono ?_); rintro e w20 ⟨rfl, hi, hb, hk⟩; refine ⟨_, rfl, ?_⟩; replace HO_3 := aa (Kd.R_mono (Kd.R_keep (IsS80.apart (zhpbib : IsS80 w0 _ g s0_0 t111) (zcaken HO_3.out) (by decide)) hk (fun _ h => h.2)) (fun _ h => h.1)); replace HK := aa (KeepBut.trans zncgdm hk (.inl rfl)); replace HB := aa (hb); replace HI0 := aa (hi); (try clear hb hk hi)) | ((with_reducible refine gate_dst (N := 24) rfl ?_); refine Kd.R_lit (Kd.int .i64) _ 2 ?hg (N := 24) ?hd (xs := ([0, 0, 1, 2] : List Int)) (inner := [.int .i64 0, .int .i64 0, .int .i64 1, .int .i64 2]) (ok := fun _ => True) (okp := fun _ => True) ?hr ?hp (fun _ hk => hk) trivial (Below.refl _ _) (Nat.le_refl _) (by simp) ?_; (case hd => rfl); (case hg => rfl); (case hr => exact zhlgcp); (case hp => exact zfojpl); intro v115 w21 ho22 hb hg_ hnew_; clear hg_ hnew_; (first | rw [← Ny114.out] at ho22 | (simp only [Int.reduceToNat] at ho22; rw [← Ny114.out] at ho22)); have n0_ := aa (Kd.R_below (zcaken HO_3.out) hb); have n1_ := aa (Kd.R_lower ho22 (keep_size (w := w) (g := g) (row := none) zncgdm)); have n2_ := aa (IsS80.below zhpbib hb); have n3_ := aa (KeepBut.trans zncgdm (KeepBut.of_below hb g none) (.inl rfl)); have n4_ := aa (below_step zicchn hb); clear HO_3; clear HI0; clear HK; clear HB; have HO_3 := n0_; have HO116 := n1_; have HI0 := n2_; have HK := n3_; have HB := n4_; clear n0_ n1_ n2_ n3_ n4_; clear hb ho22; obtain ⟨Ao23, co23, eo23⟩ := Kd.R_slice HO116.out; subst eo23) | (refine gc_ Tryd.func26 (some 25) #[.pointer (some ⟨g, 0, none⟩), .slice Ao23 y114.length co23] ?_; (with_reducible refine (spec_l1Pick.calls g s0_0 t113 _ _ y114 t117 t118 w0 _ ?side1 ?side2 ?side3 ?side4 ?side5 A11.out).mono ?_); (case side1 => exact zhpbib); (case side2 => exact zicchn); (case side3 => exact zaoaoj); (case side4 => exact zllekc); (case side5 => exact far_slice (IsS80.own_ne HI0.out HO116.out (by decide))); rintro e w24 ⟨rfl, hi, hb, hk⟩; refine ⟨_, rfl, ?_⟩; replace HO_3 := aa (Kd.R_mono (Kd.R_keep (IsS80.apart (zhpbib : IsS80 w0 _ g s0_0 t113) (zcaken HO_3.out) (by decide)) hk (fun _ h => h.2)) (fun _ h => h.1)); replace HO116 := aa (Kd.R_mono (Kd.R_keep (IsS80.apart (zhpbib : IsS80 w0 _ g s0_0 t113) (zcaken HO116.out) (by decide)) hk (fun _ h => h.2)) (fun _ h => h.1)); replace HK := aa (KeepBut.trans zncgdm hk (.inl rfl)); replace HB := aa (hb); replace HI0 := aa (hi); (try clear hb hk hi)) | (refine gc_ Tryd.func50 (some 27) #[.pointer (some ⟨g, 0, none⟩), .int .i64 5] ?_; (with_reducible refine (spec_l1Chance.calls g s0_0 t118 5 t119 t120 w0 _ zhpbib zicchn A12.out).mono ?_); rintro e w25 ⟨rfl, hi, hb, hk⟩; refine ⟨_, rfl, ?_⟩; replace HO_3 := aa (Kd.R_mono (Kd.R_keep (IsS80.apart (zhpbib : IsS80 w0 _ g s0_0 t118) (zcaken HO_3.out) (by decide)) hk (fun _ h => h.2)) (fun _ h => h.1)); replace HO116 := aa (Kd.R_mono (Kd.R_keep (IsS80.apart (zhpbib : IsS80 w0 _ g s0_0 t118) (zcaken HO116.out) (by decide)) hk (fun _ h => h.2)) (fun _ h => h.1)); replace HK := aa (KeepBut.trans zncgdm hk (.inl rfl)); replace HB := aa (hb); replace HI0 := aa (hi); (try clear hb hk hi); obtain ⟨Ao26, co26, eo26⟩ := Kd.R_slice HO_3.out; subst eo26) | (refine gc_ Tryd.func53 (some 28) #[.slice Ao26 x3_1.length co26, .string t110, .int .i64 t112, .int .i64 t117, .bool t119] ?_; (with_reducible refine (spec_l2Create.calls k1 _ _ x3_1 t110 t112 t117 t119 t121 t122 t123 _ zifagg zkdfbh A13.out).mono ?_); rintro e w27 ⟨v124, rfl, ho0, hb⟩; refine ⟨_, rfl, ?_⟩; have n0_ := aa (Kd.R_elder' (zcaken HO_3.out) (Kd.R_base ho0) hb); have n1_ := aa (Kd.R_below (zcaken HO116.out) hb); have n2_ := aa (Kd.R_lower (Kd.R_new' ho0 (Kd.R_lt (zcaken HO_3.out))) (keep_size (w := w) (g := g) (row := none) zncgdm)); have n3_ := aa (IsS80.below zhpbib hb); have n4_ := aa (KeepBut.trans zncgdm (KeepBut.of_below hb g none) (.inl rfl)); have n5_ := aa (below_step zicchn hb); clear HO_3; clear HO116; clear HI0; clear HK; clear HB; have HO_3 := n0_; have HO116 := n1_; have HO125 := n2_; have HI0 := n3_; have HK := n4_; have HB := n5_; clear n0_ n1_ n2_ n3_ n4_ n5_; (try clear hb hk hi ho0)) | (refine be_ 6 #[.int .i64 0, .string (⟨#[]⟩ : ByteArray), .slice none 0 0] 28 ?_; intro gb126 hg w28 hbox hb; have n0_ := aa (Kd.R_below (zcaken HO_3.out) hb); have n1_ := aa (Kd.R_below (zcaken HO116.out) hb); have n2_ := aa (Kd.R_below (zcaken HO125.out) hb); have n3_ := aa (IsS80.below zhpbib hb); have n4_ := aa (KeepBut.trans zncgdm (KeepBut.of_below hb g none) (.inl rfl)); have n5_ := aa (below_step zicchn hb); have n6_ := aa (hbox); have n7_ := aa ((zakope : w.heap.size ≤ gb126)); have n8_ := aa ((Nat.le_trans HW0.out (zakope : w.heap.size ≤ gb126) : w0.heap.size ≤ gb126)); have n9_ := aa ((by rw [hg]; exact Nat.ne_of_lt (IsS80.lt (zhpbib : IsS80 w0 _ g s0_0 t120)) : g ≠ gb126)); have n10_ := aa ((by rw [hg]; exact Nat.ne_of_gt (IsS80.lt (zhpbib : IsS80 w0 _ g s0_0 t120)) : gb126 ≠ g)); clear HO_3; clear HO116; clear HO125; clear HI0; clear HK; clear HB; have HO_3 := n0_; have HO116 := n1_; have HO125 := n2_; have HI0 := n3_; have HK := n4_; have HB := n5_; have BK126 := n6_; have GW126 := n7_; have GE126 := n8_; have NB0_126 := n9_; have NB126_0 := n10_; clear n0_ n1_ n2_ n3_ n4_ n5_ n6_ n7_ n8_ n9_ n10_; clear hb hbox hg; have hnb29 := NB126_0.out; have hnc29 := NB0_126.out; obtain ⟨hcz30_0, hcz30_1, hcz30_2, hfz30_0, hfz30_1, hfz30_2⟩ := blk3_ BK126.out; obtain ⟨Ao31, co31, eo31⟩ := Kd.R_slice HO125.out; subst eo31) | (refine gc_ Tryd.func27 (some 30) #[.pointer (some ⟨g, 0, none⟩), .int .i64 6] ?_; (with_reducible refine (spec_l1Next.calls g s0_0 t120 6 t127 t128 w0 _ zhbkhh zobpji A14.out).mono ?_); rintro e w32 ⟨rfl, hi, hb, hk⟩; refine ⟨_, rfl, ?_⟩; have n0_ := aa (Kd.R_mono (Kd.R_keep (IsS80.apart (zhbkhh : IsS80 w0 _ g s0_0 t120) (by (with_reducible repeat (first | apply Kd.R_alloc | apply Kd.R_drewN | apply Kd.R_drew)); exact (Kd.R_mono (Kd.R_far (p := ⟨gb126, 2, none⟩) (Kd.R_far (p := ⟨gb126, 1, none⟩) (Kd.R_far (p := ⟨gb126, 0, none⟩) (Kd.R_types HO_3.out BK126.out (by decide)) (fun _ hk => hk.2) (.int .i64 t121)) (fun _ hk => hk.2) (.string t122)) (fun _ hk => hk.2) (.slice Ao31 t123.length co31)) (fun _ h_ => h_.1))) (by decide)) hk (fun _ h => h.2)) (fun _ h => h.1)); have n1_ := aa (Kd.R_mono (Kd.R_keep (IsS80.apart (zhbkhh : IsS80 w0 _ g s0_0 t120) (by (with_reducible repeat (first | apply Kd.R_alloc | apply Kd.R_drewN | apply Kd.R_drew)); exact (Kd.R_mono (Kd.R_far (p := ⟨gb126, 2, none⟩) (Kd.R_far (p := ⟨gb126, 1, none⟩) (Kd.R_far (p := ⟨gb126, 0, none⟩) (Kd.R_types HO116.out BK126.out (by decide)) (fun _ hk => hk.2) (.int .i64 t121)) (fun _ hk => hk.2) (.string t122)) (fun _ hk => hk.2) (.slice Ao31 t123.length co31)) (fun _ h_ => h_.1))) (by decide)) hk (fun _ h => h.2)) (fun _ h => h.1)); have n2_ := aa (Kd.R_mono (Kd.R_keep (IsS80.apart (zhbkhh : IsS80 w0 _ g s0_0 t120) (by (with_reducible repeat (first | apply Kd.R_alloc | apply Kd.R_drewN | apply Kd.R_drew)); exact (Kd.R_mono (Kd.R_far (p := ⟨gb126, 2, none⟩) (Kd.R_far (p := ⟨gb126, 1, none⟩) (Kd.R_far (p := ⟨gb126, 0, none⟩) (Kd.R_types HO125.out BK126.out (by decide)) (fun _ hk => hk.2) (.int .i64 t121)) (fun _ hk => hk.2) (.string t122)) (fun _ hk => hk.2) (.slice Ao31 t123.length co31)) (fun _ h_ => h_.1))) (by decide)) hk (fun _ h => h.2)) (fun _ h => h.1)); have n3_ := aa (KeepBut.blk hk (g' := gb126) (o := .cells #[.int .i64 t121, .string t122, .slice Ao31 t123.length co31] 28 (0, 0)) zncpfg NB126_0.out (by simp)); have n4_ := aa (KeepBut.trans znijah hk (.inl rfl)); have n5_ := aa (hb); have n6_ := aa (hi); clear HO_3; clear HO116; clear HO125; clear BK126; clear HK; clear HB; clear HI0; have HO_3 := n0_; have HO116 := n1_; have HO125 := n2_; have BK126 := n3_; have HK := n4_; have HB := n5_; have HI0 := n6_; clear n0_ n1_ n2_ n3_ n4_ n5_ n6_; (try clear hb hk hi)) | (refine gc_ Tryd.func27 (some 36) #[.pointer (some ⟨g, 0, none⟩), .int .i64 99] ?_; (with_reducible refine (spec_l1Next.calls g s0_0 t128 99 t129 t130 w0 _ zhbkhh zobpji A16.out).mono ?_); rintro e w33 ⟨rfl, hi, hb, hk⟩; refine ⟨_, rfl, ?_⟩; replace HO_3 := aa (Kd.R_mono (Kd.R_keep (IsS80.apart (zhbkhh : IsS80 w0 _ g s0_0 t128) (zcaken HO_3.out) (by decide)) hk (fun _ h => h.2)) (fun _ h => h.1)); replace HO116 := aa (Kd.R_mono (Kd.R_keep (IsS80.apart (zhbkhh : IsS80 w0 _ g s0_0 t128) (zcaken HO116.out) (by decide)) hk (fun _ h => h.2)) (fun _ h => h.1)); replace HO125 := aa (Kd.R_mono (Kd.R_keep (IsS80.apart (zhbkhh : IsS80 w0 _ g s0_0 t128) (zcaken HO125.out) (by decide)) hk (fun _ h => h.2)) (fun _ h => h.1)); replace BK126 := aa (KeepBut.blk hk (g' := gb126) (o := .cells #[.int .i64 t121, .string t122, .slice Ao31 t123.length co31] 28 (0, 0)) (zkjhpm BK126.out) NB126_0.out (by simp)); replace HK := aa (KeepBut.trans znijah hk (.inl rfl)); replace HB := aa (hb); replace HI0 := aa (hi); (try clear hb hk hi)) | (refine gc_ Tryd.func35 (some 37) #[.slice Ao26 x3_1.length co26, .string t110, .int .i64 t129, .int .i64 (-1)] ?_; (with_reducible refine (spec_l2Set.calls k1 _ _ x3_1 t110 t129 (-1) t131 t132 t133 _ zifagg zkdfbh A17.out).mono ?_); rintro e w34 ⟨v134, rfl, ho0, hb⟩; refine ⟨_, rfl, ?_⟩; have n0_ := aa (Kd.R_elder' (zcaken HO_3.out) (Kd.R_base ho0) hb); have n1_ := aa (Kd.R_below (zcaken HO116.out) hb); have n2_ := aa (Kd.R_elder' (zcaken HO125.out) (Kd.R_base ho0) hb); have n3_ := aa (Kd.R_lower (Kd.R_new' (Kd.R_new' ho0 (Kd.R_lt (zcaken HO_3.out))) (Kd.R_lt (zcaken HO125.out))) (keep_size (w := w) (g := g) (row := none) znijah)); have n4_ := aa (IsS80.below zhbkhh hb); have n5_ := aa (bb_ BK126.out hb); have n6_ := aa (KeepBut.trans znijah (KeepBut.of_below hb g none) (.inl rfl)); have n7_ := aa (below_step zobpji hb); clear HO_3; clear HO116; clear HO125; clear HI0; clear BK126; clear HK; clear HB; have HO_3 := n0_; have HO116 := n1_; have HO125 := n2_; have HO135 := n3_; have HI0 := n4_; have BK126 := n5_; have HK := n6_; have HB := n7_; clear n0_ n1_ n2_ n3_ n4_ n5_ n6_ n7_; (try clear hb hk hi ho0); obtain ⟨hcz35_0, hcz35_1, hcz35_2, hfz35_0, hfz35_1, hfz35_2⟩ := blk3_ BK126.out; obtain ⟨Ao36, co36, eo36⟩ := Kd.R_slice HO135.out; subst eo36))
      go_roundg k1
      case measure => have := HK1.out; omega
      case rel => exact ⟨(t133), (wrap64 (x4_1 - 1)), (t130), zagbkp, H', ⟨by have := HK1.out; omega⟩, ⟨by (with_reducible repeat (first | apply Kd.R_alloc | apply Kd.R_drewN | apply Kd.R_drew)); exact Kd.R_mono (Kd.R_far (p := ⟨gb126, 2, none⟩) (Kd.R_far (p := ⟨gb126, 1, none⟩) (Kd.R_far (p := ⟨gb126, 0, none⟩) (Kd.R_types HO135.out BK126.out (by decide)) (fun _ hk => hk.2) (.int .i64 t131)) (fun _ hk => hk.2) (.string t132)) (fun _ hk => hk.2) (.slice Ao36 t133.length co36)) (fun _ hk => trivial)⟩, ⟨zhbkhh⟩, ⟨znijah⟩, ⟨zobpji⟩⟩
     have H' := aa H
     clear H
     go_wp2_with (first | (refine gc_ Tryd.func73 (some 18) #[.pointer (some ⟨g, 0, none⟩)] ?_; (with_reducible refine (spec_l1Draw.calls k1 g s0_0 x1001_1 t110 t111 w0 _ zhpbib zicchn A9.out).mono ?_); rintro e w37 ⟨rfl, hi, hb, hk⟩; refine ⟨_, rfl, ?_⟩; replace HO_3 := aa (Kd.R_mono (Kd.R_keep (IsS80.apart (zhpbib : IsS80 w0 _ g s0_0 x1001_1) (zcaken HO_3.out) (by decide)) hk (fun _ h => h.2)) (fun _ h => h.1)); replace HK := aa (KeepBut.trans zncgdm hk (.inl rfl)); replace HB := aa (hb); replace HI0 := aa (hi); (try clear hb hk hi)) | (refine gc_ Tryd.func27 (some 22) #[.pointer (some ⟨g, 0, none⟩), .int .i64 99] ?_; (with_reducible refine (spec_l1Next.calls g s0_0 t111 99 t112 t113 w0 _ zhpbib zicchn A10.out).mono ?_); rintro e w38 ⟨rfl, hi, hb, hk⟩; refine ⟨_, rfl, ?_⟩; replace HO_3 := aa (Kd.R_mono (Kd.R_keep (IsS80.apart (zhpbib : IsS80 w0 _ g s0_0 t111) (zcaken HO_3.out) (by decide)) hk (fun _ h => h.2)) (fun _ h => h.1)); replace HK := aa (KeepBut.trans zncgdm hk (.inl rfl)); replace HB := aa (hb); replace HI0 := aa (hi); (try clear hb hk hi)) | ((with_reducible refine gate_dst (N := 24) rfl ?_); refine Kd.R_lit (Kd.int .i64) _ 2 ?hg (N := 24) ?hd (xs := ([0, 0, 1, 2] : List Int)) (inner := [.int .i64 0, .int .i64 0, .int .i64 1, .int .i64 2]) (ok := fun _ => True) (okp := fun _ => True) ?hr ?hp (fun _ hk => hk) trivial (Below.refl _ _) (Nat.le_refl _) (by simp) ?_; (case hd => rfl); (case hg => rfl); (case hr => exact zhlgcp); (case hp => exact zfojpl); intro v115 w39 ho40 hb hg_ hnew_; clear hg_ hnew_; (first | rw [← Ny114.out] at ho40 | (simp only [Int.reduceToNat] at ho40; rw [← Ny114.out] at ho40)); have n0_ := aa (Kd.R_below (zcaken HO_3.out) hb); have n1_ := aa (Kd.R_lower ho40 (keep_size (w := w) (g := g) (row := none) zncgdm)); have n2_ := aa (IsS80.below zhpbib hb); have n3_ := aa (KeepBut.trans zncgdm (KeepBut.of_below hb g none) (.inl rfl)); have n4_ := aa (below_step zicchn hb); clear HO_3; clear HI0; clear HK; clear HB; have HO_3 := n0_; have HO116 := n1_; have HI0 := n2_; have HK := n3_; have HB := n4_; clear n0_ n1_ n2_ n3_ n4_; clear hb ho40; obtain ⟨Ao41, co41, eo41⟩ := Kd.R_slice HO116.out; subst eo41) | (refine gc_ Tryd.func26 (some 25) #[.pointer (some ⟨g, 0, none⟩), .slice Ao41 y114.length co41] ?_; (with_reducible refine (spec_l1Pick.calls g s0_0 t113 _ _ y114 t117 t118 w0 _ ?side1 ?side2 ?side3 ?side4 ?side5 A11.out).mono ?_); (case side1 => exact zhpbib); (case side2 => exact zicchn); (case side3 => exact zaoaoj); (case side4 => exact zllekc); (case side5 => exact far_slice (IsS80.own_ne HI0.out HO116.out (by decide))); rintro e w42 ⟨rfl, hi, hb, hk⟩; refine ⟨_, rfl, ?_⟩; replace HO_3 := aa (Kd.R_mono (Kd.R_keep (IsS80.apart (zhpbib : IsS80 w0 _ g s0_0 t113) (zcaken HO_3.out) (by decide)) hk (fun _ h => h.2)) (fun _ h => h.1)); replace HO116 := aa (Kd.R_mono (Kd.R_keep (IsS80.apart (zhpbib : IsS80 w0 _ g s0_0 t113) (zcaken HO116.out) (by decide)) hk (fun _ h => h.2)) (fun _ h => h.1)); replace HK := aa (KeepBut.trans zncgdm hk (.inl rfl)); replace HB := aa (hb); replace HI0 := aa (hi); (try clear hb hk hi)) | (refine gc_ Tryd.func50 (some 27) #[.pointer (some ⟨g, 0, none⟩), .int .i64 5] ?_; (with_reducible refine (spec_l1Chance.calls g s0_0 t118 5 t119 t120 w0 _ zhpbib zicchn A12.out).mono ?_); rintro e w43 ⟨rfl, hi, hb, hk⟩; refine ⟨_, rfl, ?_⟩; replace HO_3 := aa (Kd.R_mono (Kd.R_keep (IsS80.apart (zhpbib : IsS80 w0 _ g s0_0 t118) (zcaken HO_3.out) (by decide)) hk (fun _ h => h.2)) (fun _ h => h.1)); replace HO116 := aa (Kd.R_mono (Kd.R_keep (IsS80.apart (zhpbib : IsS80 w0 _ g s0_0 t118) (zcaken HO116.out) (by decide)) hk (fun _ h => h.2)) (fun _ h => h.1)); replace HK := aa (KeepBut.trans zncgdm hk (.inl rfl)); replace HB := aa (hb); replace HI0 := aa (hi); (try clear hb hk hi); obtain ⟨Ao44, co44, eo44⟩ := Kd.R_slice HO_3.out; subst eo44) | (refine gc_ Tryd.func53 (some 28) #[.slice Ao44 x3_1.length co44, .string t110, .int .i64 t112, .int .i64 t117, .bool t119] ?_; (with_reducible refine (spec_l2Create.calls k1 _ _ x3_1 t110 t112 t117 t119 t121 t122 t123 _ zifagg zkdfbh A13.out).mono ?_); rintro e w45 ⟨v124, rfl, ho0, hb⟩; refine ⟨_, rfl, ?_⟩; have n0_ := aa (Kd.R_elder' (zcaken HO_3.out) (Kd.R_base ho0) hb); have n1_ := aa (Kd.R_below (zcaken HO116.out) hb); have n2_ := aa (Kd.R_lower (Kd.R_new' ho0 (Kd.R_lt (zcaken HO_3.out))) (keep_size (w := w) (g := g) (row := none) zncgdm)); have n3_ := aa (IsS80.below zhpbib hb); have n4_ := aa (KeepBut.trans zncgdm (KeepBut.of_below hb g none) (.inl rfl)); have n5_ := aa (below_step zicchn hb); clear HO_3; clear HO116; clear HI0; clear HK; clear HB; have HO_3 := n0_; have HO116 := n1_; have HO125 := n2_; have HI0 := n3_; have HK := n4_; have HB := n5_; clear n0_ n1_ n2_ n3_ n4_ n5_; (try clear hb hk hi ho0)) | (refine be_ 6 #[.int .i64 0, .string (⟨#[]⟩ : ByteArray), .slice none 0 0] 28 ?_; intro gb126 hg w46 hbox hb; have n0_ := aa (Kd.R_below (zcaken HO_3.out) hb); have n1_ := aa (Kd.R_below (zcaken HO116.out) hb); have n2_ := aa (Kd.R_below (zcaken HO125.out) hb); have n3_ := aa (IsS80.below zhpbib hb); have n4_ := aa (KeepBut.trans zncgdm (KeepBut.of_below hb g none) (.inl rfl)); have n5_ := aa (below_step zicchn hb); have n6_ := aa (hbox); have n7_ := aa ((zakope : w.heap.size ≤ gb126)); have n8_ := aa ((Nat.le_trans HW0.out (zakope : w.heap.size ≤ gb126) : w0.heap.size ≤ gb126)); have n9_ := aa ((by rw [hg]; exact Nat.ne_of_lt (IsS80.lt (zhpbib : IsS80 w0 _ g s0_0 t120)) : g ≠ gb126)); have n10_ := aa ((by rw [hg]; exact Nat.ne_of_gt (IsS80.lt (zhpbib : IsS80 w0 _ g s0_0 t120)) : gb126 ≠ g)); clear HO_3; clear HO116; clear HO125; clear HI0; clear HK; clear HB; have HO_3 := n0_; have HO116 := n1_; have HO125 := n2_; have HI0 := n3_; have HK := n4_; have HB := n5_; have BK126 := n6_; have GW126 := n7_; have GE126 := n8_; have NB0_126 := n9_; have NB126_0 := n10_; clear n0_ n1_ n2_ n3_ n4_ n5_ n6_ n7_ n8_ n9_ n10_; clear hb hbox hg; have hnb47 := NB126_0.out; have hnc47 := NB0_126.out; obtain ⟨hcz48_0, hcz48_1, hcz48_2, hfz48_0, hfz48_1, hfz48_2⟩ := blk3_ BK126.out; obtain ⟨Ao49, co49, eo49⟩ := Kd.R_slice HO125.out; subst eo49) | (refine gc_ Tryd.func27 (some 30) #[.pointer (some ⟨g, 0, none⟩), .int .i64 6] ?_; (with_reducible refine (spec_l1Next.calls g s0_0 t120 6 t127 t128 w0 _ zhbkhh zobpji A14.out).mono ?_); rintro e w50 ⟨rfl, hi, hb, hk⟩; refine ⟨_, rfl, ?_⟩; have n0_ := aa (Kd.R_mono (Kd.R_keep (IsS80.apart (zhbkhh : IsS80 w0 _ g s0_0 t120) (by (with_reducible repeat (first | apply Kd.R_alloc | apply Kd.R_drewN | apply Kd.R_drew)); exact (Kd.R_mono (Kd.R_far (p := ⟨gb126, 2, none⟩) (Kd.R_far (p := ⟨gb126, 1, none⟩) (Kd.R_far (p := ⟨gb126, 0, none⟩) (Kd.R_types HO_3.out BK126.out (by decide)) (fun _ hk => hk.2) (.int .i64 t121)) (fun _ hk => hk.2) (.string t122)) (fun _ hk => hk.2) (.slice Ao49 t123.length co49)) (fun _ h_ => h_.1))) (by decide)) hk (fun _ h => h.2)) (fun _ h => h.1)); have n1_ := aa (Kd.R_mono (Kd.R_keep (IsS80.apart (zhbkhh : IsS80 w0 _ g s0_0 t120) (by (with_reducible repeat (first | apply Kd.R_alloc | apply Kd.R_drewN | apply Kd.R_drew)); exact (Kd.R_mono (Kd.R_far (p := ⟨gb126, 2, none⟩) (Kd.R_far (p := ⟨gb126, 1, none⟩) (Kd.R_far (p := ⟨gb126, 0, none⟩) (Kd.R_types HO116.out BK126.out (by decide)) (fun _ hk => hk.2) (.int .i64 t121)) (fun _ hk => hk.2) (.string t122)) (fun _ hk => hk.2) (.slice Ao49 t123.length co49)) (fun _ h_ => h_.1))) (by decide)) hk (fun _ h => h.2)) (fun _ h => h.1)); have n2_ := aa (Kd.R_mono (Kd.R_keep (IsS80.apart (zhbkhh : IsS80 w0 _ g s0_0 t120) (by (with_reducible repeat (first | apply Kd.R_alloc | apply Kd.R_drewN | apply Kd.R_drew)); exact (Kd.R_mono (Kd.R_far (p := ⟨gb126, 2, none⟩) (Kd.R_far (p := ⟨gb126, 1, none⟩) (Kd.R_far (p := ⟨gb126, 0, none⟩) (Kd.R_types HO125.out BK126.out (by decide)) (fun _ hk => hk.2) (.int .i64 t121)) (fun _ hk => hk.2) (.string t122)) (fun _ hk => hk.2) (.slice Ao49 t123.length co49)) (fun _ h_ => h_.1))) (by decide)) hk (fun _ h => h.2)) (fun _ h => h.1)); have n3_ := aa (KeepBut.blk hk (g' := gb126) (o := .cells #[.int .i64 t121, .string t122, .slice Ao49 t123.length co49] 28 (0, 0)) zncpfg NB126_0.out (by simp)); have n4_ := aa (KeepBut.trans znijah hk (.inl rfl)); have n5_ := aa (hb); have n6_ := aa (hi); clear HO_3; clear HO116; clear HO125; clear BK126; clear HK; clear HB; clear HI0; have HO_3 := n0_; have HO116 := n1_; have HO125 := n2_; have BK126 := n3_; have HK := n4_; have HB := n5_; have HI0 := n6_; clear n0_ n1_ n2_ n3_ n4_ n5_ n6_; (try clear hb hk hi)) | (refine gc_ Tryd.func27 (some 36) #[.pointer (some ⟨g, 0, none⟩), .int .i64 99] ?_; (with_reducible refine (spec_l1Next.calls g s0_0 t128 99 t129 t130 w0 _ zhbkhh zobpji A16.out).mono ?_); rintro e w51 ⟨rfl, hi, hb, hk⟩; refine ⟨_, rfl, ?_⟩; replace HO_3 := aa (Kd.R_mono (Kd.R_keep (IsS80.apart (zhbkhh : IsS80 w0 _ g s0_0 t128) (zcaken HO_3.out) (by decide)) hk (fun _ h => h.2)) (fun _ h => h.1)); replace HO116 := aa (Kd.R_mono (Kd.R_keep (IsS80.apart (zhbkhh : IsS80 w0 _ g s0_0 t128) (zcaken HO116.out) (by decide)) hk (fun _ h => h.2)) (fun _ h => h.1)); replace HO125 := aa (Kd.R_mono (Kd.R_keep (IsS80.apart (zhbkhh : IsS80 w0 _ g s0_0 t128) (zcaken HO125.out) (by decide)) hk (fun _ h => h.2)) (fun _ h => h.1)); replace BK126 := aa (KeepBut.blk hk (g' := gb126) (o := .cells #[.int .i64 t121, .string t122, .slice Ao49 t123.length co49] 28 (0, 0)) (zkjhpm BK126.out) NB126_0.out (by simp)); replace HK := aa (KeepBut.trans znijah hk (.inl rfl)); replace HB := aa (hb); replace HI0 := aa (hi); (try clear hb hk hi)) | (refine gc_ Tryd.func35 (some 37) #[.slice Ao44 x3_1.length co44, .string t110, .int .i64 t129, .int .i64 (-1)] ?_; (with_reducible refine (spec_l2Set.calls k1 _ _ x3_1 t110 t129 (-1) t131 t132 t133 _ zifagg zkdfbh A17.out).mono ?_); rintro e w52 ⟨v134, rfl, ho0, hb⟩; refine ⟨_, rfl, ?_⟩; have n0_ := aa (Kd.R_elder' (zcaken HO_3.out) (Kd.R_base ho0) hb); have n1_ := aa (Kd.R_below (zcaken HO116.out) hb); have n2_ := aa (Kd.R_elder' (zcaken HO125.out) (Kd.R_base ho0) hb); have n3_ := aa (Kd.R_lower (Kd.R_new' (Kd.R_new' ho0 (Kd.R_lt (zcaken HO_3.out))) (Kd.R_lt (zcaken HO125.out))) (keep_size (w := w) (g := g) (row := none) znijah)); have n4_ := aa (IsS80.below zhbkhh hb); have n5_ := aa (bb_ BK126.out hb); have n6_ := aa (KeepBut.trans znijah (KeepBut.of_below hb g none) (.inl rfl)); have n7_ := aa (below_step zobpji hb); clear HO_3; clear HO116; clear HO125; clear HI0; clear BK126; clear HK; clear HB; have HO_3 := n0_; have HO116 := n1_; have HO125 := n2_; have HO135 := n3_; have HI0 := n4_; have BK126 := n5_; have HK := n6_; have HB := n7_; clear n0_ n1_ n2_ n3_ n4_ n5_ n6_ n7_; (try clear hb hk hi ho0); obtain ⟨hcz53_0, hcz53_1, hcz53_2, hfz53_0, hfz53_1, hfz53_2⟩ := blk3_ BK126.out; obtain ⟨Ao54, co54, eo54⟩ := Kd.R_slice HO135.out; subst eo54))
     go_roundg k1
     case measure => have := HK1.out; omega
     case rel => exact ⟨(x3_1), (wrap64 (x4_1 - 1)), (t130), zagbkp, H', ⟨by have := HK1.out; omega⟩, ⟨by (with_reducible repeat (first | apply Kd.R_alloc | apply Kd.R_drewN | apply Kd.R_drew)); exact Kd.R_mono (Kd.R_far (p := ⟨gb126, 2, none⟩) (Kd.R_far (p := ⟨gb126, 1, none⟩) (Kd.R_far (p := ⟨gb126, 0, none⟩) (Kd.R_types HO_3.out BK126.out (by decide)) (fun _ hk => hk.2) (.int .i64 t131)) (fun _ hk => hk.2) (.string t132)) (fun _ hk => hk.2) (.slice Ao54 t133.length co54)) (fun _ hk => trivial)⟩, ⟨zhbkhh⟩, ⟨znijah⟩, ⟨zobpji⟩⟩
    revert H
    refine itE_ (fun c55b0 c55b1 H => ?_) fun c55b0 c55b1 H => ?_
    ·
     revert H
     refine ob3_ fun t136 t137 t138 A56 H => ?_
     (try dsimp only at H)
     revert H
     refine itE_ (fun c57b0 c57b1 H => ?_) fun c57b0 c57b1 H => ?_
     ·
      have H' := aa H
      clear H
      go_wp2_with (first | (refine gc_ Tryd.func73 (some 18) #[.pointer (some ⟨g, 0, none⟩)] ?_; (with_reducible refine (spec_l1Draw.calls k1 g s0_0 x1001_1 t110 t111 w0 _ zhpbib zicchn A9.out).mono ?_); rintro e w58 ⟨rfl, hi, hb, hk⟩; refine ⟨_, rfl, ?_⟩; replace HO_3 := aa (Kd.R_mono (Kd.R_keep (IsS80.apart (zhpbib : IsS80 w0 _ g s0_0 x1001_1) (zcaken HO_3.out) (by decide)) hk (fun _ h => h.2)) (fun _ h => h.1)); replace HK := aa (KeepBut.trans zncgdm hk (.inl rfl)); replace HB := aa (hb); replace HI0 := aa (hi); (try clear hb hk hi)) | (refine gc_ Tryd.func27 (some 22) #[.pointer (some ⟨g, 0, none⟩), .int .i64 99] ?_; (with_reducible refine (spec_l1Next.calls g s0_0 t111 99 t112 t113 w0 _ zhpbib zicchn A10.out).mono ?_); rintro e w59 ⟨rfl, hi, hb, hk⟩; refine ⟨_, rfl, ?_⟩; replace HO_3 := aa (Kd.R_mono (Kd.R_keep (IsS80.apart (zhpbib : IsS80 w0 _ g s0_0 t111) (zcaken HO_3.out) (by decide)) hk (fun _ h => h.2)) (fun _ h => h.1)); replace HK := aa (KeepBut.trans zncgdm hk (.inl rfl)); replace HB := aa (hb); replace HI0 := aa (hi); (try clear hb hk hi)) | ((with_reducible refine gate_dst (N := 24) rfl ?_); refine Kd.R_lit (Kd.int .i64) _ 2 ?hg (N := 24) ?hd (xs := ([0, 0, 1, 2] : List Int)) (inner := [.int .i64 0, .int .i64 0, .int .i64 1, .int .i64 2]) (ok := fun _ => True) (okp := fun _ => True) ?hr ?hp (fun _ hk => hk) trivial (Below.refl _ _) (Nat.le_refl _) (by simp) ?_; (case hd => rfl); (case hg => rfl); (case hr => exact zhlgcp); (case hp => exact zfojpl); intro v115 w60 ho61 hb hg_ hnew_; clear hg_ hnew_; (first | rw [← Ny114.out] at ho61 | (simp only [Int.reduceToNat] at ho61; rw [← Ny114.out] at ho61)); have n0_ := aa (Kd.R_below (zcaken HO_3.out) hb); have n1_ := aa (Kd.R_lower ho61 (keep_size (w := w) (g := g) (row := none) zncgdm)); have n2_ := aa (IsS80.below zhpbib hb); have n3_ := aa (KeepBut.trans zncgdm (KeepBut.of_below hb g none) (.inl rfl)); have n4_ := aa (below_step zicchn hb); clear HO_3; clear HI0; clear HK; clear HB; have HO_3 := n0_; have HO116 := n1_; have HI0 := n2_; have HK := n3_; have HB := n4_; clear n0_ n1_ n2_ n3_ n4_; clear hb ho61; obtain ⟨Ao62, co62, eo62⟩ := Kd.R_slice HO116.out; subst eo62) | (refine gc_ Tryd.func26 (some 25) #[.pointer (some ⟨g, 0, none⟩), .slice Ao62 y114.length co62] ?_; (with_reducible refine (spec_l1Pick.calls g s0_0 t113 _ _ y114 t117 t118 w0 _ ?side1 ?side2 ?side3 ?side4 ?side5 A11.out).mono ?_); (case side1 => exact zhpbib); (case side2 => exact zicchn); (case side3 => exact zaoaoj); (case side4 => exact zllekc); (case side5 => exact far_slice (IsS80.own_ne HI0.out HO116.out (by decide))); rintro e w63 ⟨rfl, hi, hb, hk⟩; refine ⟨_, rfl, ?_⟩; replace HO_3 := aa (Kd.R_mono (Kd.R_keep (IsS80.apart (zhpbib : IsS80 w0 _ g s0_0 t113) (zcaken HO_3.out) (by decide)) hk (fun _ h => h.2)) (fun _ h => h.1)); replace HO116 := aa (Kd.R_mono (Kd.R_keep (IsS80.apart (zhpbib : IsS80 w0 _ g s0_0 t113) (zcaken HO116.out) (by decide)) hk (fun _ h => h.2)) (fun _ h => h.1)); replace HK := aa (KeepBut.trans zncgdm hk (.inl rfl)); replace HB := aa (hb); replace HI0 := aa (hi); (try clear hb hk hi)) | (refine gc_ Tryd.func50 (some 27) #[.pointer (some ⟨g, 0, none⟩), .int .i64 5] ?_; (with_reducible refine (spec_l1Chance.calls g s0_0 t118 5 t119 t120 w0 _ zhpbib zicchn A12.out).mono ?_); rintro e w64 ⟨rfl, hi, hb, hk⟩; refine ⟨_, rfl, ?_⟩; replace HO_3 := aa (Kd.R_mono (Kd.R_keep (IsS80.apart (zhpbib : IsS80 w0 _ g s0_0 t118) (zcaken HO_3.out) (by decide)) hk (fun _ h => h.2)) (fun _ h => h.1)); replace HO116 := aa (Kd.R_mono (Kd.R_keep (IsS80.apart (zhpbib : IsS80 w0 _ g s0_0 t118) (zcaken HO116.out) (by decide)) hk (fun _ h => h.2)) (fun _ h => h.1)); replace HK := aa (KeepBut.trans zncgdm hk (.inl rfl)); replace HB := aa (hb); replace HI0 := aa (hi); (try clear hb hk hi); obtain ⟨Ao65, co65, eo65⟩ := Kd.R_slice HO_3.out; subst eo65) | (refine gc_ Tryd.func53 (some 28) #[.slice Ao65 x3_1.length co65, .string t110, .int .i64 t112, .int .i64 t117, .bool t119] ?_; (with_reducible refine (spec_l2Create.calls k1 _ _ x3_1 t110 t112 t117 t119 t121 t122 t123 _ zifagg zkdfbh A13.out).mono ?_); rintro e w66 ⟨v124, rfl, ho0, hb⟩; refine ⟨_, rfl, ?_⟩; have n0_ := aa (Kd.R_elder' (zcaken HO_3.out) (Kd.R_base ho0) hb); have n1_ := aa (Kd.R_below (zcaken HO116.out) hb); have n2_ := aa (Kd.R_lower (Kd.R_new' ho0 (Kd.R_lt (zcaken HO_3.out))) (keep_size (w := w) (g := g) (row := none) zncgdm)); have n3_ := aa (IsS80.below zhpbib hb); have n4_ := aa (KeepBut.trans zncgdm (KeepBut.of_below hb g none) (.inl rfl)); have n5_ := aa (below_step zicchn hb); clear HO_3; clear HO116; clear HI0; clear HK; clear HB; have HO_3 := n0_; have HO116 := n1_; have HO125 := n2_; have HI0 := n3_; have HK := n4_; have HB := n5_; clear n0_ n1_ n2_ n3_ n4_ n5_; (try clear hb hk hi ho0)) | (refine be_ 6 #[.int .i64 0, .string (⟨#[]⟩ : ByteArray), .slice none 0 0] 28 ?_; intro gb126 hg w67 hbox hb; have n0_ := aa (Kd.R_below (zcaken HO_3.out) hb); have n1_ := aa (Kd.R_below (zcaken HO116.out) hb); have n2_ := aa (Kd.R_below (zcaken HO125.out) hb); have n3_ := aa (IsS80.below zhpbib hb); have n4_ := aa (KeepBut.trans zncgdm (KeepBut.of_below hb g none) (.inl rfl)); have n5_ := aa (below_step zicchn hb); have n6_ := aa (hbox); have n7_ := aa ((zakope : w.heap.size ≤ gb126)); have n8_ := aa ((Nat.le_trans HW0.out (zakope : w.heap.size ≤ gb126) : w0.heap.size ≤ gb126)); have n9_ := aa ((by rw [hg]; exact Nat.ne_of_lt (IsS80.lt (zhpbib : IsS80 w0 _ g s0_0 t120)) : g ≠ gb126)); have n10_ := aa ((by rw [hg]; exact Nat.ne_of_gt (IsS80.lt (zhpbib : IsS80 w0 _ g s0_0 t120)) : gb126 ≠ g)); clear HO_3; clear HO116; clear HO125; clear HI0; clear HK; clear HB; have HO_3 := n0_; have HO116 := n1_; have HO125 := n2_; have HI0 := n3_; have HK := n4_; have HB := n5_; have BK126 := n6_; have GW126 := n7_; have GE126 := n8_; have NB0_126 := n9_; have NB126_0 := n10_; clear n0_ n1_ n2_ n3_ n4_ n5_ n6_ n7_ n8_ n9_ n10_; clear hb hbox hg; have hnb68 := NB126_0.out; have hnc68 := NB0_126.out; obtain ⟨hcz69_0, hcz69_1, hcz69_2, hfz69_0, hfz69_1, hfz69_2⟩ := blk3_ BK126.out; obtain ⟨Ao70, co70, eo70⟩ := Kd.R_slice HO125.out; subst eo70) | (refine gc_ Tryd.func27 (some 30) #[.pointer (some ⟨g, 0, none⟩), .int .i64 6] ?_; (with_reducible refine (spec_l1Next.calls g s0_0 t120 6 t127 t128 w0 _ zhbkhh zobpji A14.out).mono ?_); rintro e w71 ⟨rfl, hi, hb, hk⟩; refine ⟨_, rfl, ?_⟩; have n0_ := aa (Kd.R_mono (Kd.R_keep (IsS80.apart (zhbkhh : IsS80 w0 _ g s0_0 t120) (by (with_reducible repeat (first | apply Kd.R_alloc | apply Kd.R_drewN | apply Kd.R_drew)); exact (Kd.R_mono (Kd.R_far (p := ⟨gb126, 2, none⟩) (Kd.R_far (p := ⟨gb126, 1, none⟩) (Kd.R_far (p := ⟨gb126, 0, none⟩) (Kd.R_types HO_3.out BK126.out (by decide)) (fun _ hk => hk.2) (.int .i64 t121)) (fun _ hk => hk.2) (.string t122)) (fun _ hk => hk.2) (.slice Ao70 t123.length co70)) (fun _ h_ => h_.1))) (by decide)) hk (fun _ h => h.2)) (fun _ h => h.1)); have n1_ := aa (Kd.R_mono (Kd.R_keep (IsS80.apart (zhbkhh : IsS80 w0 _ g s0_0 t120) (by (with_reducible repeat (first | apply Kd.R_alloc | apply Kd.R_drewN | apply Kd.R_drew)); exact (Kd.R_mono (Kd.R_far (p := ⟨gb126, 2, none⟩) (Kd.R_far (p := ⟨gb126, 1, none⟩) (Kd.R_far (p := ⟨gb126, 0, none⟩) (Kd.R_types HO116.out BK126.out (by decide)) (fun _ hk => hk.2) (.int .i64 t121)) (fun _ hk => hk.2) (.string t122)) (fun _ hk => hk.2) (.slice Ao70 t123.length co70)) (fun _ h_ => h_.1))) (by decide)) hk (fun _ h => h.2)) (fun _ h => h.1)); have n2_ := aa (Kd.R_mono (Kd.R_keep (IsS80.apart (zhbkhh : IsS80 w0 _ g s0_0 t120) (by (with_reducible repeat (first | apply Kd.R_alloc | apply Kd.R_drewN | apply Kd.R_drew)); exact (Kd.R_mono (Kd.R_far (p := ⟨gb126, 2, none⟩) (Kd.R_far (p := ⟨gb126, 1, none⟩) (Kd.R_far (p := ⟨gb126, 0, none⟩) (Kd.R_types HO125.out BK126.out (by decide)) (fun _ hk => hk.2) (.int .i64 t121)) (fun _ hk => hk.2) (.string t122)) (fun _ hk => hk.2) (.slice Ao70 t123.length co70)) (fun _ h_ => h_.1))) (by decide)) hk (fun _ h => h.2)) (fun _ h => h.1)); have n3_ := aa (KeepBut.blk hk (g' := gb126) (o := .cells #[.int .i64 t121, .string t122, .slice Ao70 t123.length co70] 28 (0, 0)) zncpfg NB126_0.out (by simp)); have n4_ := aa (KeepBut.trans znijah hk (.inl rfl)); have n5_ := aa (hb); have n6_ := aa (hi); clear HO_3; clear HO116; clear HO125; clear BK126; clear HK; clear HB; clear HI0; have HO_3 := n0_; have HO116 := n1_; have HO125 := n2_; have BK126 := n3_; have HK := n4_; have HB := n5_; have HI0 := n6_; clear n0_ n1_ n2_ n3_ n4_ n5_ n6_; (try clear hb hk hi)) | (refine gc_ Tryd.func41 (some 42) #[.slice Ao65 x3_1.length co65, .string t110, .int .i64 (-1)] ?_; (with_reducible refine (spec_l2Delete.calls k1 _ _ x3_1 t110 (-1) t136 t137 t138 _ zifagg zkdfbh A56.out).mono ?_); rintro e w72 ⟨v139, rfl, ho0, hb⟩; refine ⟨_, rfl, ?_⟩; have n0_ := aa (Kd.R_elder' (zcaken HO_3.out) (Kd.R_base ho0) hb); have n1_ := aa (Kd.R_below (zcaken HO116.out) hb); have n2_ := aa (Kd.R_elder' (zcaken HO125.out) (Kd.R_base ho0) hb); have n3_ := aa (Kd.R_lower (Kd.R_new' (Kd.R_new' ho0 (Kd.R_lt (zcaken HO_3.out))) (Kd.R_lt (zcaken HO125.out))) (keep_size (w := w) (g := g) (row := none) znijah)); have n4_ := aa (IsS80.below zhbkhh hb); have n5_ := aa (bb_ BK126.out hb); have n6_ := aa (KeepBut.trans znijah (KeepBut.of_below hb g none) (.inl rfl)); have n7_ := aa (below_step zobpji hb); clear HO_3; clear HO116; clear HO125; clear HI0; clear BK126; clear HK; clear HB; have HO_3 := n0_; have HO116 := n1_; have HO125 := n2_; have HO140 := n3_; have HI0 := n4_; have BK126 := n5_; have HK := n6_; have HB := n7_; clear n0_ n1_ n2_ n3_ n4_ n5_ n6_ n7_; (try clear hb hk hi ho0); obtain ⟨hcz73_0, hcz73_1, hcz73_2, hfz73_0, hfz73_1, hfz73_2⟩ := blk3_ BK126.out; obtain ⟨Ao74, co74, eo74⟩ := Kd.R_slice HO140.out; subst eo74))
      go_roundg k1
      case measure => have := HK1.out; omega
      case rel => exact ⟨(t138), (wrap64 (x4_1 - 1)), (t128), zagbkp, H', ⟨by have := HK1.out; omega⟩, ⟨by (with_reducible repeat (first | apply Kd.R_alloc | apply Kd.R_drewN | apply Kd.R_drew)); exact Kd.R_mono (Kd.R_far (p := ⟨gb126, 2, none⟩) (Kd.R_far (p := ⟨gb126, 1, none⟩) (Kd.R_far (p := ⟨gb126, 0, none⟩) (Kd.R_types HO140.out BK126.out (by decide)) (fun _ hk => hk.2) (.int .i64 t136)) (fun _ hk => hk.2) (.string t137)) (fun _ hk => hk.2) (.slice Ao74 t138.length co74)) (fun _ hk => trivial)⟩, ⟨zhbkhh⟩, ⟨znijah⟩, ⟨zobpji⟩⟩
     have H' := aa H
     clear H
     go_wp2_with (first | (refine gc_ Tryd.func73 (some 18) #[.pointer (some ⟨g, 0, none⟩)] ?_; (with_reducible refine (spec_l1Draw.calls k1 g s0_0 x1001_1 t110 t111 w0 _ zhpbib zicchn A9.out).mono ?_); rintro e w75 ⟨rfl, hi, hb, hk⟩; refine ⟨_, rfl, ?_⟩; replace HO_3 := aa (Kd.R_mono (Kd.R_keep (IsS80.apart (zhpbib : IsS80 w0 _ g s0_0 x1001_1) (zcaken HO_3.out) (by decide)) hk (fun _ h => h.2)) (fun _ h => h.1)); replace HK := aa (KeepBut.trans zncgdm hk (.inl rfl)); replace HB := aa (hb); replace HI0 := aa (hi); (try clear hb hk hi)) | (refine gc_ Tryd.func27 (some 22) #[.pointer (some ⟨g, 0, none⟩), .int .i64 99] ?_; (with_reducible refine (spec_l1Next.calls g s0_0 t111 99 t112 t113 w0 _ zhpbib zicchn A10.out).mono ?_); rintro e w76 ⟨rfl, hi, hb, hk⟩; refine ⟨_, rfl, ?_⟩; replace HO_3 := aa (Kd.R_mono (Kd.R_keep (IsS80.apart (zhpbib : IsS80 w0 _ g s0_0 t111) (zcaken HO_3.out) (by decide)) hk (fun _ h => h.2)) (fun _ h => h.1)); replace HK := aa (KeepBut.trans zncgdm hk (.inl rfl)); replace HB := aa (hb); replace HI0 := aa (hi); (try clear hb hk hi)) | ((with_reducible refine gate_dst (N := 24) rfl ?_); refine Kd.R_lit (Kd.int .i64) _ 2 ?hg (N := 24) ?hd (xs := ([0, 0, 1, 2] : List Int)) (inner := [.int .i64 0, .int .i64 0, .int .i64 1, .int .i64 2]) (ok := fun _ => True) (okp := fun _ => True) ?hr ?hp (fun _ hk => hk) trivial (Below.refl _ _) (Nat.le_refl _) (by simp) ?_; (case hd => rfl); (case hg => rfl); (case hr => exact zhlgcp); (case hp => exact zfojpl); intro v115 w77 ho78 hb hg_ hnew_; clear hg_ hnew_; (first | rw [← Ny114.out] at ho78 | (simp only [Int.reduceToNat] at ho78; rw [← Ny114.out] at ho78)); have n0_ := aa (Kd.R_below (zcaken HO_3.out) hb); have n1_ := aa (Kd.R_lower ho78 (keep_size (w := w) (g := g) (row := none) zncgdm)); have n2_ := aa (IsS80.below zhpbib hb); have n3_ := aa (KeepBut.trans zncgdm (KeepBut.of_below hb g none) (.inl rfl)); have n4_ := aa (below_step zicchn hb); clear HO_3; clear HI0; clear HK; clear HB; have HO_3 := n0_; have HO116 := n1_; have HI0 := n2_; have HK := n3_; have HB := n4_; clear n0_ n1_ n2_ n3_ n4_; clear hb ho78; obtain ⟨Ao79, co79, eo79⟩ := Kd.R_slice HO116.out; subst eo79) | (refine gc_ Tryd.func26 (some 25) #[.pointer (some ⟨g, 0, none⟩), .slice Ao79 y114.length co79] ?_; (with_reducible refine (spec_l1Pick.calls g s0_0 t113 _ _ y114 t117 t118 w0 _ ?side1 ?side2 ?side3 ?side4 ?side5 A11.out).mono ?_); (case side1 => exact zhpbib); (case side2 => exact zicchn); (case side3 => exact zaoaoj); (case side4 => exact zllekc); (case side5 => exact far_slice (IsS80.own_ne HI0.out HO116.out (by decide))); rintro e w80 ⟨rfl, hi, hb, hk⟩; refine ⟨_, rfl, ?_⟩; replace HO_3 := aa (Kd.R_mono (Kd.R_keep (IsS80.apart (zhpbib : IsS80 w0 _ g s0_0 t113) (zcaken HO_3.out) (by decide)) hk (fun _ h => h.2)) (fun _ h => h.1)); replace HO116 := aa (Kd.R_mono (Kd.R_keep (IsS80.apart (zhpbib : IsS80 w0 _ g s0_0 t113) (zcaken HO116.out) (by decide)) hk (fun _ h => h.2)) (fun _ h => h.1)); replace HK := aa (KeepBut.trans zncgdm hk (.inl rfl)); replace HB := aa (hb); replace HI0 := aa (hi); (try clear hb hk hi)) | (refine gc_ Tryd.func50 (some 27) #[.pointer (some ⟨g, 0, none⟩), .int .i64 5] ?_; (with_reducible refine (spec_l1Chance.calls g s0_0 t118 5 t119 t120 w0 _ zhpbib zicchn A12.out).mono ?_); rintro e w81 ⟨rfl, hi, hb, hk⟩; refine ⟨_, rfl, ?_⟩; replace HO_3 := aa (Kd.R_mono (Kd.R_keep (IsS80.apart (zhpbib : IsS80 w0 _ g s0_0 t118) (zcaken HO_3.out) (by decide)) hk (fun _ h => h.2)) (fun _ h => h.1)); replace HO116 := aa (Kd.R_mono (Kd.R_keep (IsS80.apart (zhpbib : IsS80 w0 _ g s0_0 t118) (zcaken HO116.out) (by decide)) hk (fun _ h => h.2)) (fun _ h => h.1)); replace HK := aa (KeepBut.trans zncgdm hk (.inl rfl)); replace HB := aa (hb); replace HI0 := aa (hi); (try clear hb hk hi); obtain ⟨Ao82, co82, eo82⟩ := Kd.R_slice HO_3.out; subst eo82) | (refine gc_ Tryd.func53 (some 28) #[.slice Ao82 x3_1.length co82, .string t110, .int .i64 t112, .int .i64 t117, .bool t119] ?_; (with_reducible refine (spec_l2Create.calls k1 _ _ x3_1 t110 t112 t117 t119 t121 t122 t123 _ zifagg zkdfbh A13.out).mono ?_); rintro e w83 ⟨v124, rfl, ho0, hb⟩; refine ⟨_, rfl, ?_⟩; have n0_ := aa (Kd.R_elder' (zcaken HO_3.out) (Kd.R_base ho0) hb); have n1_ := aa (Kd.R_below (zcaken HO116.out) hb); have n2_ := aa (Kd.R_lower (Kd.R_new' ho0 (Kd.R_lt (zcaken HO_3.out))) (keep_size (w := w) (g := g) (row := none) zncgdm)); have n3_ := aa (IsS80.below zhpbib hb); have n4_ := aa (KeepBut.trans zncgdm (KeepBut.of_below hb g none) (.inl rfl)); have n5_ := aa (below_step zicchn hb); clear HO_3; clear HO116; clear HI0; clear HK; clear HB; have HO_3 := n0_; have HO116 := n1_; have HO125 := n2_; have HI0 := n3_; have HK := n4_; have HB := n5_; clear n0_ n1_ n2_ n3_ n4_ n5_; (try clear hb hk hi ho0)) | (refine be_ 6 #[.int .i64 0, .string (⟨#[]⟩ : ByteArray), .slice none 0 0] 28 ?_; intro gb126 hg w84 hbox hb; have n0_ := aa (Kd.R_below (zcaken HO_3.out) hb); have n1_ := aa (Kd.R_below (zcaken HO116.out) hb); have n2_ := aa (Kd.R_below (zcaken HO125.out) hb); have n3_ := aa (IsS80.below zhpbib hb); have n4_ := aa (KeepBut.trans zncgdm (KeepBut.of_below hb g none) (.inl rfl)); have n5_ := aa (below_step zicchn hb); have n6_ := aa (hbox); have n7_ := aa ((zakope : w.heap.size ≤ gb126)); have n8_ := aa ((Nat.le_trans HW0.out (zakope : w.heap.size ≤ gb126) : w0.heap.size ≤ gb126)); have n9_ := aa ((by rw [hg]; exact Nat.ne_of_lt (IsS80.lt (zhpbib : IsS80 w0 _ g s0_0 t120)) : g ≠ gb126)); have n10_ := aa ((by rw [hg]; exact Nat.ne_of_gt (IsS80.lt (zhpbib : IsS80 w0 _ g s0_0 t120)) : gb126 ≠ g)); clear HO_3; clear HO116; clear HO125; clear HI0; clear HK; clear HB; have HO_3 := n0_; have HO116 := n1_; have HO125 := n2_; have HI0 := n3_; have HK := n4_; have HB := n5_; have BK126 := n6_; have GW126 := n7_; have GE126 := n8_; have NB0_126 := n9_; have NB126_0 := n10_; clear n0_ n1_ n2_ n3_ n4_ n5_ n6_ n7_ n8_ n9_ n10_; clear hb hbox hg; have hnb85 := NB126_0.out; have hnc85 := NB0_126.out; obtain ⟨hcz86_0, hcz86_1, hcz86_2, hfz86_0, hfz86_1, hfz86_2⟩ := blk3_ BK126.out; obtain ⟨Ao87, co87, eo87⟩ := Kd.R_slice HO125.out; subst eo87) | (refine gc_ Tryd.func27 (some 30) #[.pointer (some ⟨g, 0, none⟩), .int .i64 6] ?_; (with_reducible refine (spec_l1Next.calls g s0_0 t120 6 t127 t128 w0 _ zhbkhh zobpji A14.out).mono ?_); rintro e w88 ⟨rfl, hi, hb, hk⟩; refine ⟨_, rfl, ?_⟩; have n0_ := aa (Kd.R_mono (Kd.R_keep (IsS80.apart (zhbkhh : IsS80 w0 _ g s0_0 t120) (by (with_reducible repeat (first | apply Kd.R_alloc | apply Kd.R_drewN | apply Kd.R_drew)); exact (Kd.R_mono (Kd.R_far (p := ⟨gb126, 2, none⟩) (Kd.R_far (p := ⟨gb126, 1, none⟩) (Kd.R_far (p := ⟨gb126, 0, none⟩) (Kd.R_types HO_3.out BK126.out (by decide)) (fun _ hk => hk.2) (.int .i64 t121)) (fun _ hk => hk.2) (.string t122)) (fun _ hk => hk.2) (.slice Ao87 t123.length co87)) (fun _ h_ => h_.1))) (by decide)) hk (fun _ h => h.2)) (fun _ h => h.1)); have n1_ := aa (Kd.R_mono (Kd.R_keep (IsS80.apart (zhbkhh : IsS80 w0 _ g s0_0 t120) (by (with_reducible repeat (first | apply Kd.R_alloc | apply Kd.R_drewN | apply Kd.R_drew)); exact (Kd.R_mono (Kd.R_far (p := ⟨gb126, 2, none⟩) (Kd.R_far (p := ⟨gb126, 1, none⟩) (Kd.R_far (p := ⟨gb126, 0, none⟩) (Kd.R_types HO116.out BK126.out (by decide)) (fun _ hk => hk.2) (.int .i64 t121)) (fun _ hk => hk.2) (.string t122)) (fun _ hk => hk.2) (.slice Ao87 t123.length co87)) (fun _ h_ => h_.1))) (by decide)) hk (fun _ h => h.2)) (fun _ h => h.1)); have n2_ := aa (Kd.R_mono (Kd.R_keep (IsS80.apart (zhbkhh : IsS80 w0 _ g s0_0 t120) (by (with_reducible repeat (first | apply Kd.R_alloc | apply Kd.R_drewN | apply Kd.R_drew)); exact (Kd.R_mono (Kd.R_far (p := ⟨gb126, 2, none⟩) (Kd.R_far (p := ⟨gb126, 1, none⟩) (Kd.R_far (p := ⟨gb126, 0, none⟩) (Kd.R_types HO125.out BK126.out (by decide)) (fun _ hk => hk.2) (.int .i64 t121)) (fun _ hk => hk.2) (.string t122)) (fun _ hk => hk.2) (.slice Ao87 t123.length co87)) (fun _ h_ => h_.1))) (by decide)) hk (fun _ h => h.2)) (fun _ h => h.1)); have n3_ := aa (KeepBut.blk hk (g' := gb126) (o := .cells #[.int .i64 t121, .string t122, .slice Ao87 t123.length co87] 28 (0, 0)) zncpfg NB126_0.out (by simp)); have n4_ := aa (KeepBut.trans znijah hk (.inl rfl)); have n5_ := aa (hb); have n6_ := aa (hi); clear HO_3; clear HO116; clear HO125; clear BK126; clear HK; clear HB; clear HI0; have HO_3 := n0_; have HO116 := n1_; have HO125 := n2_; have BK126 := n3_; have HK := n4_; have HB := n5_; have HI0 := n6_; clear n0_ n1_ n2_ n3_ n4_ n5_ n6_; (try clear hb hk hi)) | (refine gc_ Tryd.func41 (some 42) #[.slice Ao82 x3_1.length co82, .string t110, .int .i64 (-1)] ?_; (with_reducible refine (spec_l2Delete.calls k1 _ _ x3_1 t110 (-1) t136 t137 t138 _ zifagg zkdfbh A56.out).mono ?_); rintro e w89 ⟨v139, rfl, ho0, hb⟩; refine ⟨_, rfl, ?_⟩; have n0_ := aa (Kd.R_elder' (zcaken HO_3.out) (Kd.R_base ho0) hb); have n1_ := aa (Kd.R_below (zcaken HO116.out) hb); have n2_ := aa (Kd.R_elder' (zcaken HO125.out) (Kd.R_base ho0) hb); have n3_ := aa (Kd.R_lower (Kd.R_new' (Kd.R_new' ho0 (Kd.R_lt (zcaken HO_3.out))) (Kd.R_lt (zcaken HO125.out))) (keep_size (w := w) (g := g) (row := none) znijah)); have n4_ := aa (IsS80.below zhbkhh hb); have n5_ := aa (bb_ BK126.out hb); have n6_ := aa (KeepBut.trans znijah (KeepBut.of_below hb g none) (.inl rfl)); have n7_ := aa (below_step zobpji hb); clear HO_3; clear HO116; clear HO125; clear HI0; clear BK126; clear HK; clear HB; have HO_3 := n0_; have HO116 := n1_; have HO125 := n2_; have HO140 := n3_; have HI0 := n4_; have BK126 := n5_; have HK := n6_; have HB := n7_; clear n0_ n1_ n2_ n3_ n4_ n5_ n6_ n7_; (try clear hb hk hi ho0); obtain ⟨hcz90_0, hcz90_1, hcz90_2, hfz90_0, hfz90_1, hfz90_2⟩ := blk3_ BK126.out; obtain ⟨Ao91, co91, eo91⟩ := Kd.R_slice HO140.out; subst eo91))
     go_roundg k1
     case measure => have := HK1.out; omega
     case rel => exact ⟨(x3_1), (wrap64 (x4_1 - 1)), (t128), zagbkp, H', ⟨by have := HK1.out; omega⟩, ⟨by (with_reducible repeat (first | apply Kd.R_alloc | apply Kd.R_drewN | apply Kd.R_drew)); exact Kd.R_mono (Kd.R_far (p := ⟨gb126, 2, none⟩) (Kd.R_far (p := ⟨gb126, 1, none⟩) (Kd.R_far (p := ⟨gb126, 0, none⟩) (Kd.R_types HO_3.out BK126.out (by decide)) (fun _ hk => hk.2) (.int .i64 t136)) (fun _ hk => hk.2) (.string t137)) (fun _ hk => hk.2) (.slice Ao91 t138.length co91)) (fun _ hk => trivial)⟩, ⟨zhbkhh⟩, ⟨znijah⟩, ⟨zobpji⟩⟩
    revert H
    refine itE_ (fun c92b0 c92b1 H => ?_) fun c92b0 c92b1 H => ?_
    ·
     have H' := aa H
     clear H
     go_wp2_with (first | (refine gc_ Tryd.func73 (some 18) #[.pointer (some ⟨g, 0, none⟩)] ?_; (with_reducible refine (spec_l1Draw.calls k1 g s0_0 x1001_1 t110 t111 w0 _ zhpbib zicchn A9.out).mono ?_); rintro e w93 ⟨rfl, hi, hb, hk⟩; refine ⟨_, rfl, ?_⟩; replace HO_3 := aa (Kd.R_mono (Kd.R_keep (IsS80.apart (zhpbib : IsS80 w0 _ g s0_0 x1001_1) (zcaken HO_3.out) (by decide)) hk (fun _ h => h.2)) (fun _ h => h.1)); replace HK := aa (KeepBut.trans zncgdm hk (.inl rfl)); replace HB := aa (hb); replace HI0 := aa (hi); (try clear hb hk hi)) | (refine gc_ Tryd.func27 (some 22) #[.pointer (some ⟨g, 0, none⟩), .int .i64 99] ?_; (with_reducible refine (spec_l1Next.calls g s0_0 t111 99 t112 t113 w0 _ zhpbib zicchn A10.out).mono ?_); rintro e w94 ⟨rfl, hi, hb, hk⟩; refine ⟨_, rfl, ?_⟩; replace HO_3 := aa (Kd.R_mono (Kd.R_keep (IsS80.apart (zhpbib : IsS80 w0 _ g s0_0 t111) (zcaken HO_3.out) (by decide)) hk (fun _ h => h.2)) (fun _ h => h.1)); replace HK := aa (KeepBut.trans zncgdm hk (.inl rfl)); replace HB := aa (hb); replace HI0 := aa (hi); (try clear hb hk hi)) | ((with_reducible refine gate_dst (N := 24) rfl ?_); refine Kd.R_lit (Kd.int .i64) _ 2 ?hg (N := 24) ?hd (xs := ([0, 0, 1, 2] : List Int)) (inner := [.int .i64 0, .int .i64 0, .int .i64 1, .int .i64 2]) (ok := fun _ => True) (okp := fun _ => True) ?hr ?hp (fun _ hk => hk) trivial (Below.refl _ _) (Nat.le_refl _) (by simp) ?_; (case hd => rfl); (case hg => rfl); (case hr => exact zhlgcp); (case hp => exact zfojpl); intro v115 w95 ho96 hb hg_ hnew_; clear hg_ hnew_; (first | rw [← Ny114.out] at ho96 | (simp only [Int.reduceToNat] at ho96; rw [← Ny114.out] at ho96)); have n0_ := aa (Kd.R_below (zcaken HO_3.out) hb); have n1_ := aa (Kd.R_lower ho96 (keep_size (w := w) (g := g) (row := none) zncgdm)); have n2_ := aa (IsS80.below zhpbib hb); have n3_ := aa (KeepBut.trans zncgdm (KeepBut.of_below hb g none) (.inl rfl)); have n4_ := aa (below_step zicchn hb); clear HO_3; clear HI0; clear HK; clear HB; have HO_3 := n0_; have HO116 := n1_; have HI0 := n2_; have HK := n3_; have HB := n4_; clear n0_ n1_ n2_ n3_ n4_; clear hb ho96; obtain ⟨Ao97, co97, eo97⟩ := Kd.R_slice HO116.out; subst eo97) | (refine gc_ Tryd.func26 (some 25) #[.pointer (some ⟨g, 0, none⟩), .slice Ao97 y114.length co97] ?_; (with_reducible refine (spec_l1Pick.calls g s0_0 t113 _ _ y114 t117 t118 w0 _ ?side1 ?side2 ?side3 ?side4 ?side5 A11.out).mono ?_); (case side1 => exact zhpbib); (case side2 => exact zicchn); (case side3 => exact zaoaoj); (case side4 => exact zllekc); (case side5 => exact far_slice (IsS80.own_ne HI0.out HO116.out (by decide))); rintro e w98 ⟨rfl, hi, hb, hk⟩; refine ⟨_, rfl, ?_⟩; replace HO_3 := aa (Kd.R_mono (Kd.R_keep (IsS80.apart (zhpbib : IsS80 w0 _ g s0_0 t113) (zcaken HO_3.out) (by decide)) hk (fun _ h => h.2)) (fun _ h => h.1)); replace HO116 := aa (Kd.R_mono (Kd.R_keep (IsS80.apart (zhpbib : IsS80 w0 _ g s0_0 t113) (zcaken HO116.out) (by decide)) hk (fun _ h => h.2)) (fun _ h => h.1)); replace HK := aa (KeepBut.trans zncgdm hk (.inl rfl)); replace HB := aa (hb); replace HI0 := aa (hi); (try clear hb hk hi)) | (refine gc_ Tryd.func50 (some 27) #[.pointer (some ⟨g, 0, none⟩), .int .i64 5] ?_; (with_reducible refine (spec_l1Chance.calls g s0_0 t118 5 t119 t120 w0 _ zhpbib zicchn A12.out).mono ?_); rintro e w99 ⟨rfl, hi, hb, hk⟩; refine ⟨_, rfl, ?_⟩; replace HO_3 := aa (Kd.R_mono (Kd.R_keep (IsS80.apart (zhpbib : IsS80 w0 _ g s0_0 t118) (zcaken HO_3.out) (by decide)) hk (fun _ h => h.2)) (fun _ h => h.1)); replace HO116 := aa (Kd.R_mono (Kd.R_keep (IsS80.apart (zhpbib : IsS80 w0 _ g s0_0 t118) (zcaken HO116.out) (by decide)) hk (fun _ h => h.2)) (fun _ h => h.1)); replace HK := aa (KeepBut.trans zncgdm hk (.inl rfl)); replace HB := aa (hb); replace HI0 := aa (hi); (try clear hb hk hi); obtain ⟨Ao100, co100, eo100⟩ := Kd.R_slice HO_3.out; subst eo100) | (refine gc_ Tryd.func53 (some 28) #[.slice Ao100 x3_1.length co100, .string t110, .int .i64 t112, .int .i64 t117, .bool t119] ?_; (with_reducible refine (spec_l2Create.calls k1 _ _ x3_1 t110 t112 t117 t119 t121 t122 t123 _ zifagg zkdfbh A13.out).mono ?_); rintro e w101 ⟨v124, rfl, ho0, hb⟩; refine ⟨_, rfl, ?_⟩; have n0_ := aa (Kd.R_elder' (zcaken HO_3.out) (Kd.R_base ho0) hb); have n1_ := aa (Kd.R_below (zcaken HO116.out) hb); have n2_ := aa (Kd.R_lower (Kd.R_new' ho0 (Kd.R_lt (zcaken HO_3.out))) (keep_size (w := w) (g := g) (row := none) zncgdm)); have n3_ := aa (IsS80.below zhpbib hb); have n4_ := aa (KeepBut.trans zncgdm (KeepBut.of_below hb g none) (.inl rfl)); have n5_ := aa (below_step zicchn hb); clear HO_3; clear HO116; clear HI0; clear HK; clear HB; have HO_3 := n0_; have HO116 := n1_; have HO125 := n2_; have HI0 := n3_; have HK := n4_; have HB := n5_; clear n0_ n1_ n2_ n3_ n4_ n5_; (try clear hb hk hi ho0)) | (refine be_ 6 #[.int .i64 0, .string (⟨#[]⟩ : ByteArray), .slice none 0 0] 28 ?_; intro gb126 hg w102 hbox hb; have n0_ := aa (Kd.R_below (zcaken HO_3.out) hb); have n1_ := aa (Kd.R_below (zcaken HO116.out) hb); have n2_ := aa (Kd.R_below (zcaken HO125.out) hb); have n3_ := aa (IsS80.below zhpbib hb); have n4_ := aa (KeepBut.trans zncgdm (KeepBut.of_below hb g none) (.inl rfl)); have n5_ := aa (below_step zicchn hb); have n6_ := aa (hbox); have n7_ := aa ((zakope : w.heap.size ≤ gb126)); have n8_ := aa ((Nat.le_trans HW0.out (zakope : w.heap.size ≤ gb126) : w0.heap.size ≤ gb126)); have n9_ := aa ((by rw [hg]; exact Nat.ne_of_lt (IsS80.lt (zhpbib : IsS80 w0 _ g s0_0 t120)) : g ≠ gb126)); have n10_ := aa ((by rw [hg]; exact Nat.ne_of_gt (IsS80.lt (zhpbib : IsS80 w0 _ g s0_0 t120)) : gb126 ≠ g)); clear HO_3; clear HO116; clear HO125; clear HI0; clear HK; clear HB; have HO_3 := n0_; have HO116 := n1_; have HO125 := n2_; have HI0 := n3_; have HK := n4_; have HB := n5_; have BK126 := n6_; have GW126 := n7_; have GE126 := n8_; have NB0_126 := n9_; have NB126_0 := n10_; clear n0_ n1_ n2_ n3_ n4_ n5_ n6_ n7_ n8_ n9_ n10_; clear hb hbox hg; have hnb103 := NB126_0.out; have hnc103 := NB0_126.out; obtain ⟨hcz104_0, hcz104_1, hcz104_2, hfz104_0, hfz104_1, hfz104_2⟩ := blk3_ BK126.out; obtain ⟨Ao105, co105, eo105⟩ := Kd.R_slice HO125.out; subst eo105) | (refine gc_ Tryd.func27 (some 30) #[.pointer (some ⟨g, 0, none⟩), .int .i64 6] ?_; (with_reducible refine (spec_l1Next.calls g s0_0 t120 6 t127 t128 w0 _ zhbkhh zobpji A14.out).mono ?_); rintro e w106 ⟨rfl, hi, hb, hk⟩; refine ⟨_, rfl, ?_⟩; have n0_ := aa (Kd.R_mono (Kd.R_keep (IsS80.apart (zhbkhh : IsS80 w0 _ g s0_0 t120) (by (with_reducible repeat (first | apply Kd.R_alloc | apply Kd.R_drewN | apply Kd.R_drew)); exact (Kd.R_mono (Kd.R_far (p := ⟨gb126, 2, none⟩) (Kd.R_far (p := ⟨gb126, 1, none⟩) (Kd.R_far (p := ⟨gb126, 0, none⟩) (Kd.R_types HO_3.out BK126.out (by decide)) (fun _ hk => hk.2) (.int .i64 t121)) (fun _ hk => hk.2) (.string t122)) (fun _ hk => hk.2) (.slice Ao105 t123.length co105)) (fun _ h_ => h_.1))) (by decide)) hk (fun _ h => h.2)) (fun _ h => h.1)); have n1_ := aa (Kd.R_mono (Kd.R_keep (IsS80.apart (zhbkhh : IsS80 w0 _ g s0_0 t120) (by (with_reducible repeat (first | apply Kd.R_alloc | apply Kd.R_drewN | apply Kd.R_drew)); exact (Kd.R_mono (Kd.R_far (p := ⟨gb126, 2, none⟩) (Kd.R_far (p := ⟨gb126, 1, none⟩) (Kd.R_far (p := ⟨gb126, 0, none⟩) (Kd.R_types HO116.out BK126.out (by decide)) (fun _ hk => hk.2) (.int .i64 t121)) (fun _ hk => hk.2) (.string t122)) (fun _ hk => hk.2) (.slice Ao105 t123.length co105)) (fun _ h_ => h_.1))) (by decide)) hk (fun _ h => h.2)) (fun _ h => h.1)); have n2_ := aa (Kd.R_mono (Kd.R_keep (IsS80.apart (zhbkhh : IsS80 w0 _ g s0_0 t120) (by (with_reducible repeat (first | apply Kd.R_alloc | apply Kd.R_drewN | apply Kd.R_drew)); exact (Kd.R_mono (Kd.R_far (p := ⟨gb126, 2, none⟩) (Kd.R_far (p := ⟨gb126, 1, none⟩) (Kd.R_far (p := ⟨gb126, 0, none⟩) (Kd.R_types HO125.out BK126.out (by decide)) (fun _ hk => hk.2) (.int .i64 t121)) (fun _ hk => hk.2) (.string t122)) (fun _ hk => hk.2) (.slice Ao105 t123.length co105)) (fun _ h_ => h_.1))) (by decide)) hk (fun _ h => h.2)) (fun _ h => h.1)); have n3_ := aa (KeepBut.blk hk (g' := gb126) (o := .cells #[.int .i64 t121, .string t122, .slice Ao105 t123.length co105] 28 (0, 0)) zncpfg NB126_0.out (by simp)); have n4_ := aa (KeepBut.trans znijah hk (.inl rfl)); have n5_ := aa (hb); have n6_ := aa (hi); clear HO_3; clear HO116; clear HO125; clear BK126; clear HK; clear HB; clear HI0; have HO_3 := n0_; have HO116 := n1_; have HO125 := n2_; have BK126 := n3_; have HK := n4_; have HB := n5_; have HI0 := n6_; clear n0_ n1_ n2_ n3_ n4_ n5_ n6_; (try clear hb hk hi); obtain ⟨hcz107_0, hcz107_1, hcz107_2, hfz107_0, hfz107_1, hfz107_2⟩ := blk3_ BK126.out))
     go_roundg k1
     case measure => have := HK1.out; omega
     case rel => exact ⟨(t123), (wrap64 (x4_1 - 1)), (t128), zagbkp, H', ⟨by have := HK1.out; omega⟩, ⟨by (with_reducible repeat (first | apply Kd.R_alloc | apply Kd.R_drewN | apply Kd.R_drew)); exact Kd.R_mono HO125.out (fun _ hk => trivial)⟩, ⟨zhbkhh⟩, ⟨znijah⟩, ⟨zobpji⟩⟩
    have H' := aa H
    clear H
    go_wp2_with (first | (refine gc_ Tryd.func73 (some 18) #[.pointer (some ⟨g, 0, none⟩)] ?_; (with_reducible refine (spec_l1Draw.calls k1 g s0_0 x1001_1 t110 t111 w0 _ zhpbib zicchn A9.out).mono ?_); rintro e w108 ⟨rfl, hi, hb, hk⟩; refine ⟨_, rfl, ?_⟩; replace HO_3 := aa (Kd.R_mono (Kd.R_keep (IsS80.apart (zhpbib : IsS80 w0 _ g s0_0 x1001_1) (zcaken HO_3.out) (by decide)) hk (fun _ h => h.2)) (fun _ h => h.1)); replace HK := aa (KeepBut.trans zncgdm hk (.inl rfl)); replace HB := aa (hb); replace HI0 := aa (hi); (try clear hb hk hi)) | (refine gc_ Tryd.func27 (some 22) #[.pointer (some ⟨g, 0, none⟩), .int .i64 99] ?_; (with_reducible refine (spec_l1Next.calls g s0_0 t111 99 t112 t113 w0 _ zhpbib zicchn A10.out).mono ?_); rintro e w109 ⟨rfl, hi, hb, hk⟩; refine ⟨_, rfl, ?_⟩; replace HO_3 := aa (Kd.R_mono (Kd.R_keep (IsS80.apart (zhpbib : IsS80 w0 _ g s0_0 t111) (zcaken HO_3.out) (by decide)) hk (fun _ h => h.2)) (fun _ h => h.1)); replace HK := aa (KeepBut.trans zncgdm hk (.inl rfl)); replace HB := aa (hb); replace HI0 := aa (hi); (try clear hb hk hi)) | ((with_reducible refine gate_dst (N := 24) rfl ?_); refine Kd.R_lit (Kd.int .i64) _ 2 ?hg (N := 24) ?hd (xs := ([0, 0, 1, 2] : List Int)) (inner := [.int .i64 0, .int .i64 0, .int .i64 1, .int .i64 2]) (ok := fun _ => True) (okp := fun _ => True) ?hr ?hp (fun _ hk => hk) trivial (Below.refl _ _) (Nat.le_refl _) (by simp) ?_; (case hd => rfl); (case hg => rfl); (case hr => exact zhlgcp); (case hp => exact zfojpl); intro v115 w110 ho111 hb hg_ hnew_; clear hg_ hnew_; (first | rw [← Ny114.out] at ho111 | (simp only [Int.reduceToNat] at ho111; rw [← Ny114.out] at ho111)); have n0_ := aa (Kd.R_below (zcaken HO_3.out) hb); have n1_ := aa (Kd.R_lower ho111 (keep_size (w := w) (g := g) (row := none) zncgdm)); have n2_ := aa (IsS80.below zhpbib hb); have n3_ := aa (KeepBut.trans zncgdm (KeepBut.of_below hb g none) (.inl rfl)); have n4_ := aa (below_step zicchn hb); clear HO_3; clear HI0; clear HK; clear HB; have HO_3 := n0_; have HO116 := n1_; have HI0 := n2_; have HK := n3_; have HB := n4_; clear n0_ n1_ n2_ n3_ n4_; clear hb ho111; obtain ⟨Ao112, co112, eo112⟩ := Kd.R_slice HO116.out; subst eo112) | (refine gc_ Tryd.func26 (some 25) #[.pointer (some ⟨g, 0, none⟩), .slice Ao112 y114.length co112] ?_; (with_reducible refine (spec_l1Pick.calls g s0_0 t113 _ _ y114 t117 t118 w0 _ ?side1 ?side2 ?side3 ?side4 ?side5 A11.out).mono ?_); (case side1 => exact zhpbib); (case side2 => exact zicchn); (case side3 => exact zaoaoj); (case side4 => exact zllekc); (case side5 => exact far_slice (IsS80.own_ne HI0.out HO116.out (by decide))); rintro e w113 ⟨rfl, hi, hb, hk⟩; refine ⟨_, rfl, ?_⟩; replace HO_3 := aa (Kd.R_mono (Kd.R_keep (IsS80.apart (zhpbib : IsS80 w0 _ g s0_0 t113) (zcaken HO_3.out) (by decide)) hk (fun _ h => h.2)) (fun _ h => h.1)); replace HO116 := aa (Kd.R_mono (Kd.R_keep (IsS80.apart (zhpbib : IsS80 w0 _ g s0_0 t113) (zcaken HO116.out) (by decide)) hk (fun _ h => h.2)) (fun _ h => h.1)); replace HK := aa (KeepBut.trans zncgdm hk (.inl rfl)); replace HB := aa (hb); replace HI0 := aa (hi); (try clear hb hk hi)) | (refine gc_ Tryd.func50 (some 27) #[.pointer (some ⟨g, 0, none⟩), .int .i64 5] ?_; (with_reducible refine (spec_l1Chance.calls g s0_0 t118 5 t119 t120 w0 _ zhpbib zicchn A12.out).mono ?_); rintro e w114 ⟨rfl, hi, hb, hk⟩; refine ⟨_, rfl, ?_⟩; replace HO_3 := aa (Kd.R_mono (Kd.R_keep (IsS80.apart (zhpbib : IsS80 w0 _ g s0_0 t118) (zcaken HO_3.out) (by decide)) hk (fun _ h => h.2)) (fun _ h => h.1)); replace HO116 := aa (Kd.R_mono (Kd.R_keep (IsS80.apart (zhpbib : IsS80 w0 _ g s0_0 t118) (zcaken HO116.out) (by decide)) hk (fun _ h => h.2)) (fun _ h => h.1)); replace HK := aa (KeepBut.trans zncgdm hk (.inl rfl)); replace HB := aa (hb); replace HI0 := aa (hi); (try clear hb hk hi); obtain ⟨Ao115, co115, eo115⟩ := Kd.R_slice HO_3.out; subst eo115) | (refine gc_ Tryd.func53 (some 28) #[.slice Ao115 x3_1.length co115, .string t110, .int .i64 t112, .int .i64 t117, .bool t119] ?_; (with_reducible refine (spec_l2Create.calls k1 _ _ x3_1 t110 t112 t117 t119 t121 t122 t123 _ zifagg zkdfbh A13.out).mono ?_); rintro e w116 ⟨v124, rfl, ho0, hb⟩; refine ⟨_, rfl, ?_⟩; have n0_ := aa (Kd.R_elder' (zcaken HO_3.out) (Kd.R_base ho0) hb); have n1_ := aa (Kd.R_below (zcaken HO116.out) hb); have n2_ := aa (Kd.R_lower (Kd.R_new' ho0 (Kd.R_lt (zcaken HO_3.out))) (keep_size (w := w) (g := g) (row := none) zncgdm)); have n3_ := aa (IsS80.below zhpbib hb); have n4_ := aa (KeepBut.trans zncgdm (KeepBut.of_below hb g none) (.inl rfl)); have n5_ := aa (below_step zicchn hb); clear HO_3; clear HO116; clear HI0; clear HK; clear HB; have HO_3 := n0_; have HO116 := n1_; have HO125 := n2_; have HI0 := n3_; have HK := n4_; have HB := n5_; clear n0_ n1_ n2_ n3_ n4_ n5_; (try clear hb hk hi ho0)) | (refine be_ 6 #[.int .i64 0, .string (⟨#[]⟩ : ByteArray), .slice none 0 0] 28 ?_; intro gb126 hg w117 hbox hb; have n0_ := aa (Kd.R_below (zcaken HO_3.out) hb); have n1_ := aa (Kd.R_below (zcaken HO116.out) hb); have n2_ := aa (Kd.R_below (zcaken HO125.out) hb); have n3_ := aa (IsS80.below zhpbib hb); have n4_ := aa (KeepBut.trans zncgdm (KeepBut.of_below hb g none) (.inl rfl)); have n5_ := aa (below_step zicchn hb); have n6_ := aa (hbox); have n7_ := aa ((zakope : w.heap.size ≤ gb126)); have n8_ := aa ((Nat.le_trans HW0.out (zakope : w.heap.size ≤ gb126) : w0.heap.size ≤ gb126)); have n9_ := aa ((by rw [hg]; exact Nat.ne_of_lt (IsS80.lt (zhpbib : IsS80 w0 _ g s0_0 t120)) : g ≠ gb126)); have n10_ := aa ((by rw [hg]; exact Nat.ne_of_gt (IsS80.lt (zhpbib : IsS80 w0 _ g s0_0 t120)) : gb126 ≠ g)); clear HO_3; clear HO116; clear HO125; clear HI0; clear HK; clear HB; have HO_3 := n0_; have HO116 := n1_; have HO125 := n2_; have HI0 := n3_; have HK := n4_; have HB := n5_; have BK126 := n6_; have GW126 := n7_; have GE126 := n8_; have NB0_126 := n9_; have NB126_0 := n10_; clear n0_ n1_ n2_ n3_ n4_ n5_ n6_ n7_ n8_ n9_ n10_; clear hb hbox hg; have hnb118 := NB126_0.out; have hnc118 := NB0_126.out; obtain ⟨hcz119_0, hcz119_1, hcz119_2, hfz119_0, hfz119_1, hfz119_2⟩ := blk3_ BK126.out; obtain ⟨Ao120, co120, eo120⟩ := Kd.R_slice HO125.out; subst eo120) | (refine gc_ Tryd.func27 (some 30) #[.pointer (some ⟨g, 0, none⟩), .int .i64 6] ?_; (with_reducible refine (spec_l1Next.calls g s0_0 t120 6 t127 t128 w0 _ zhbkhh zobpji A14.out).mono ?_); rintro e w121 ⟨rfl, hi, hb, hk⟩; refine ⟨_, rfl, ?_⟩; have n0_ := aa (Kd.R_mono (Kd.R_keep (IsS80.apart (zhbkhh : IsS80 w0 _ g s0_0 t120) (by (with_reducible repeat (first | apply Kd.R_alloc | apply Kd.R_drewN | apply Kd.R_drew)); exact (Kd.R_mono (Kd.R_far (p := ⟨gb126, 2, none⟩) (Kd.R_far (p := ⟨gb126, 1, none⟩) (Kd.R_far (p := ⟨gb126, 0, none⟩) (Kd.R_types HO_3.out BK126.out (by decide)) (fun _ hk => hk.2) (.int .i64 t121)) (fun _ hk => hk.2) (.string t122)) (fun _ hk => hk.2) (.slice Ao120 t123.length co120)) (fun _ h_ => h_.1))) (by decide)) hk (fun _ h => h.2)) (fun _ h => h.1)); have n1_ := aa (Kd.R_mono (Kd.R_keep (IsS80.apart (zhbkhh : IsS80 w0 _ g s0_0 t120) (by (with_reducible repeat (first | apply Kd.R_alloc | apply Kd.R_drewN | apply Kd.R_drew)); exact (Kd.R_mono (Kd.R_far (p := ⟨gb126, 2, none⟩) (Kd.R_far (p := ⟨gb126, 1, none⟩) (Kd.R_far (p := ⟨gb126, 0, none⟩) (Kd.R_types HO116.out BK126.out (by decide)) (fun _ hk => hk.2) (.int .i64 t121)) (fun _ hk => hk.2) (.string t122)) (fun _ hk => hk.2) (.slice Ao120 t123.length co120)) (fun _ h_ => h_.1))) (by decide)) hk (fun _ h => h.2)) (fun _ h => h.1)); have n2_ := aa (Kd.R_mono (Kd.R_keep (IsS80.apart (zhbkhh : IsS80 w0 _ g s0_0 t120) (by (with_reducible repeat (first | apply Kd.R_alloc | apply Kd.R_drewN | apply Kd.R_drew)); exact (Kd.R_mono (Kd.R_far (p := ⟨gb126, 2, none⟩) (Kd.R_far (p := ⟨gb126, 1, none⟩) (Kd.R_far (p := ⟨gb126, 0, none⟩) (Kd.R_types HO125.out BK126.out (by decide)) (fun _ hk => hk.2) (.int .i64 t121)) (fun _ hk => hk.2) (.string t122)) (fun _ hk => hk.2) (.slice Ao120 t123.length co120)) (fun _ h_ => h_.1))) (by decide)) hk (fun _ h => h.2)) (fun _ h => h.1)); have n3_ := aa (KeepBut.blk hk (g' := gb126) (o := .cells #[.int .i64 t121, .string t122, .slice Ao120 t123.length co120] 28 (0, 0)) zncpfg NB126_0.out (by simp)); have n4_ := aa (KeepBut.trans znijah hk (.inl rfl)); have n5_ := aa (hb); have n6_ := aa (hi); clear HO_3; clear HO116; clear HO125; clear BK126; clear HK; clear HB; clear HI0; have HO_3 := n0_; have HO116 := n1_; have HO125 := n2_; have BK126 := n3_; have HK := n4_; have HB := n5_; have HI0 := n6_; clear n0_ n1_ n2_ n3_ n4_ n5_ n6_; (try clear hb hk hi); obtain ⟨hcz122_0, hcz122_1, hcz122_2, hfz122_0, hfz122_1, hfz122_2⟩ := blk3_ BK126.out))
    go_roundg k1
    case measure => have := HK1.out; omega
    case rel => exact ⟨(x3_1), (wrap64 (x4_1 - 1)), (t128), zagbkp, H', ⟨by have := HK1.out; omega⟩, ⟨by (with_reducible repeat (first | apply Kd.R_alloc | apply Kd.R_drewN | apply Kd.R_drew)); exact Kd.R_mono HO_3.out (fun _ hk => trivial)⟩, ⟨zhbkhh⟩, ⟨znijah⟩, ⟨zobpji⟩⟩
   ·
    have c8b0 : decide (0 < x4_1) = false := decide_eq_false c8
    clear c8
    simp only [Option.some.injEq, Prod.mk.injEq] at H
    obtain ⟨rfl, rfl⟩ := H
    go_wp2
    go_ret
    exact ⟨_, zlhpib, zcaken HO_3.out, zhpbib, zicchn, zncgdm⟩
def spec_l2Bent.f (k : Nat) (s0_0 : List Int) (s0_1 : Int) : Option ((List (S32)) × Int) := (spec_l2Right.f k s0_0 s0_1).bind fun bt101 => ((spec_l1Next.f s0_0 bt101.2 (bt101.1.length : Int)).bind fun bt105 => ((spec_l1Next.f s0_0 bt105.2 14).bind fun bt107 => (if bt107.1 = 0 then ((spec_l1Bent.f k s0_0 bt107.2).bind fun bt109 => (if 0 ≤ bt105.1 then (if bt105.1 < (bt101.1.length : Int) then (some ((bt101.1.set (bt105.1 : Int).toNat (⟨bt109.1, (rd_T32 bt101.1 bt105.1).f1, (rd_T32 bt101.1 bt105.1).f2, (rd_T32 bt101.1 bt105.1).f3, (rd_T32 bt101.1 bt105.1).f4⟩ : S32)), bt109.2)) else (none)) else (none))) else (if bt107.1 = 1 then ((spec_l1Pick.f s0_0 bt107.2 (([(-1), 10000] : List Int))).bind fun bt115 => (if 0 ≤ bt105.1 then (if bt105.1 < (bt101.1.length : Int) then (some ((bt101.1.set (bt105.1 : Int).toNat (⟨(rd_T32 bt101.1 bt105.1).f0, bt115.1, (rd_T32 bt101.1 bt105.1).f2, (rd_T32 bt101.1 bt105.1).f3, (rd_T32 bt101.1 bt105.1).f4⟩ : S32)), bt115.2)) else (none)) else (none))) else (if bt107.1 = 2 then ((spec_l1Pick.f s0_0 bt107.2 (([(-1), 999, 1000] : List Int))).bind fun bt121 => (if 0 ≤ bt105.1 then (if bt105.1 < (bt101.1.length : Int) then (some ((bt101.1.set (bt105.1 : Int).toNat (⟨(rd_T32 bt101.1 bt105.1).f0, (rd_T32 bt101.1 bt105.1).f1, bt121.1, (rd_T32 bt101.1 bt105.1).f3, (rd_T32 bt101.1 bt105.1).f4⟩ : S32)), bt121.2)) else (none)) else (none))) else (if bt107.1 = 3 then ((spec_l1Pick.f s0_0 bt107.2 (([3, 10] : List Int))).bind fun bt127 => (if 0 ≤ bt105.1 then (if bt105.1 < (bt101.1.length : Int) then (some ((bt101.1.set (bt105.1 : Int).toNat (⟨(rd_T32 bt101.1 bt105.1).f0, (rd_T32 bt101.1 bt105.1).f1, (rd_T32 bt101.1 bt105.1).f2, bt127.1, (rd_T32 bt101.1 bt105.1).f4⟩ : S32)), bt127.2)) else (none)) else (none))) else (if bt107.1 = 4 then ((spec_l1Pick.f s0_0 bt107.2 (([100, 101] : List Int))).bind fun bt133 => (if 0 ≤ bt105.1 then (if bt105.1 < (bt101.1.length : Int) then (some ((bt101.1.set (bt105.1 : Int).toNat (⟨(rd_T32 bt101.1 bt105.1).f0, (rd_T32 bt101.1 bt105.1).f1, (rd_T32 bt101.1 bt105.1).f2, (rd_T32 bt101.1 bt105.1).f3, bt133.1⟩ : S32)), bt133.2)) else (none)) else (none))) else (if bt107.1 = 5 then (if 21 ≤ 5864062014805 then (some ((List.replicate 21 z32), bt107.2)) else (none)) else (some (bt101.1, bt107.2))))))))))
theorem spec_l2Bent.mono : ∀ a0 a1 k, LeO (spec_l2Bent.f k a0 a1) (spec_l2Bent.f (k + 1) a0 a1) := by
 intro a0 a1 k
 unfold spec_l2Bent.f
 with_reducible repeat' first | exact spec_l1Bent.mono _ _ _ | exact spec_l2Right.mono _ _ _ | exact LeO.refl _ | exact LeO.none _ | refine LeO.ite ?_ ?_ | refine LeO.bind ?_ (fun _ => ?_)
theorem spec_l2Bent.calls (k : Nat) (g : Nat) (s0_0 : List Int) (s0_1 : Int) (r1 : List (S32)) (r2 : Int) (w0 w : World) (hI : IsS80 w0 w g s0_0 s0_1) (hB : Below w0.heap.size w0 w) (h : spec_l2Bent.f k s0_0 s0_1 = some (r1, r2)) :
  Calls Tryd.prog 48 #[.pointer (some ⟨g, 0, none⟩)] w fun e w' => ∃ v0_ : Value, e = .returned (v0_) ∧ Kd.R k32 32 w' w.heap.size (fun _ => True) v0_ r1 ∧ IsS80 w0 w' g s0_0 r2 ∧ Below w0.heap.size w0 w' ∧ KeepBut w w' g none := by
 have HI0 := aa hI
 have HK := aa (KeepBut.refl w g none)
 have HL := aa hB.size
 clear hI
 have HW0 := aa hB.size
 have HB := aa hB
 clear hB
 have H : ((spec_l2Right.f k s0_0 s0_1).bind fun bt101 => ((spec_l1Next.f s0_0 bt101.2 (bt101.1.length : Int)).bind fun bt105 => ((spec_l1Next.f s0_0 bt105.2 14).bind fun bt107 => (if bt107.1 = 0 then ((spec_l1Bent.f k s0_0 bt107.2).bind fun bt109 => (if 0 ≤ bt105.1 then (if bt105.1 < (bt101.1.length : Int) then (some ((bt101.1.set (bt105.1 : Int).toNat (⟨bt109.1, (rd_T32 bt101.1 bt105.1).f1, (rd_T32 bt101.1 bt105.1).f2, (rd_T32 bt101.1 bt105.1).f3, (rd_T32 bt101.1 bt105.1).f4⟩ : S32)), bt109.2)) else (none)) else (none))) else (if bt107.1 = 1 then ((spec_l1Pick.f s0_0 bt107.2 (([(-1), 10000] : List Int))).bind fun bt115 => (if 0 ≤ bt105.1 then (if bt105.1 < (bt101.1.length : Int) then (some ((bt101.1.set (bt105.1 : Int).toNat (⟨(rd_T32 bt101.1 bt105.1).f0, bt115.1, (rd_T32 bt101.1 bt105.1).f2, (rd_T32 bt101.1 bt105.1).f3, (rd_T32 bt101.1 bt105.1).f4⟩ : S32)), bt115.2)) else (none)) else (none))) else (if bt107.1 = 2 then ((spec_l1Pick.f s0_0 bt107.2 (([(-1), 999, 1000] : List Int))).bind fun bt121 => (if 0 ≤ bt105.1 then (if bt105.1 < (bt101.1.length : Int) then (some ((bt101.1.set (bt105.1 : Int).toNat (⟨(rd_T32 bt101.1 bt105.1).f0, (rd_T32 bt101.1 bt105.1).f1, bt121.1, (rd_T32 bt101.1 bt105.1).f3, (rd_T32 bt101.1 bt105.1).f4⟩ : S32)), bt121.2)) else (none)) else (none))) else (if bt107.1 = 3 then ((spec_l1Pick.f s0_0 bt107.2 (([3, 10] : List Int))).bind fun bt127 => (if 0 ≤ bt105.1 then (if bt105.1 < (bt101.1.length : Int) then (some ((bt101.1.set (bt105.1 : Int).toNat (⟨(rd_T32 bt101.1 bt105.1).f0, (rd_T32 bt101.1 bt105.1).f1, (rd_T32 bt101.1 bt105.1).f2, bt127.1, (rd_T32 bt101.1 bt105.1).f4⟩ : S32)), bt127.2)) else (none)) else (none))) else (if bt107.1 = 4 then ((spec_l1Pick.f s0_0 bt107.2 (([100, 101] : List Int))).bind fun bt133 => (if 0 ≤ bt105.1 then (if bt105.1 < (bt101.1.length : Int) then (some ((bt101.1.set (bt105.1 : Int).toNat (⟨(rd_T32 bt101.1 bt105.1).f0, (rd_T32 bt101.1 bt105.1).f1, (rd_T32 bt101.1 bt105.1).f2, (rd_T32 bt101.1 bt105.1).f3, bt133.1⟩ : S32)), bt133.2)) else (none)) else (none))) else (if bt107.1 = 5 then (if 21 ≤ 5864062014805 then (some ((List.replicate 21 z32), bt107.2)) else (none)) else (some (bt101.1, bt107.2))))))))))) = some (r1, r2) := h
 clear h
 revert H
 refine ob2_ fun t101 t104 A2 H => ?_
 (try dsimp only at H)
 revert H
 refine ob2_ fun t105 t106 A3 H => ?_
 (try dsimp only at H)
 revert H
 refine ob2_ fun t107 t108 A4 H => ?_
 (try dsimp only at H)
 revert H
 refine itE_ (fun c5b0 c5b1 H => ?_) fun c5b0 c5b1 H => ?_
 ·
  revert H
  refine ob2_ fun t109 t110 A6 H => ?_
  (try dsimp only at H)
  revert H
  refine itH_ fun c7b0 H => ?_
  revert H
  refine itH_ fun c8b0 H => ?_
  obtain ⟨y111, hy111⟩ : ∃ y_ : List (S32), y_ = (t101.set (t105 : Int).toNat (⟨t109, (rd_T32 t101 t105).f1, (rd_T32 t101 t105).f2, (rd_T32 t101 t105).f3, (rd_T32 t101 t105).f4⟩ : S32)) := ⟨_, rfl⟩
  replace H : (some (y111, t110)) = some (r1, r2) := by cases hy111; exact H
  have Ny111 := aa hy111
  clear hy111
  simp only [Option.some.injEq, Prod.mk.injEq] at H
  obtain ⟨rfl, rfl⟩ := H
  go_enter Tryd.func48, Tryd.ntmps48
  go_wp2_with (first | (refine gc_ Tryd.func72 (some 6) #[.pointer (some ⟨g, 0, none⟩)] ?_; (with_reducible refine (spec_l2Right.calls k g s0_0 s0_1 t101 t104 w0 _ zhpbib zicchn A2.out).mono ?_); rintro e w10 ⟨v102, rfl, ho0, hi, hb, hk⟩; refine ⟨_, rfl, ?_⟩; have HO103 := aa (Kd.R_lower ho0 (keep_size (w := w) (g := g) (row := none) zncgdm)); replace HK := aa (KeepBut.trans zncgdm hk (.inl rfl)); replace HB := aa (hb); replace HI0 := aa (hi); (try clear hb hk hi ho0); obtain ⟨Ao11, co11, eo11⟩ := Kd.R_slice HO103.out; subst eo11) | (refine gc_ Tryd.func27 (some 10) #[.pointer (some ⟨g, 0, none⟩), .int .i64 (t101.length : Int)] ?_; (with_reducible refine (spec_l1Next.calls g s0_0 t104 (t101.length : Int) t105 t106 w0 _ zhpbib zicchn A3.out).mono ?_); rintro e w12 ⟨rfl, hi, hb, hk⟩; refine ⟨_, rfl, ?_⟩; replace HO103 := aa (Kd.R_mono (Kd.R_keep (IsS80.apart (zhpbib : IsS80 w0 _ g s0_0 t104) (zcaken HO103.out) (by decide)) hk (fun _ h => h.2)) (fun _ h => h.1)); replace HK := aa (KeepBut.trans zncgdm hk (.inl rfl)); replace HB := aa (hb); replace HI0 := aa (hi); (try clear hb hk hi)) | (refine gc_ Tryd.func27 (some 12) #[.pointer (some ⟨g, 0, none⟩), .int .i64 14] ?_; (with_reducible refine (spec_l1Next.calls g s0_0 t106 14 t107 t108 w0 _ zhpbib zicchn A4.out).mono ?_); rintro e w13 ⟨rfl, hi, hb, hk⟩; refine ⟨_, rfl, ?_⟩; replace HO103 := aa (Kd.R_mono (Kd.R_keep (IsS80.apart (zhpbib : IsS80 w0 _ g s0_0 t106) (zcaken HO103.out) (by decide)) hk (fun _ h => h.2)) (fun _ h => h.1)); replace HK := aa (KeepBut.trans zncgdm hk (.inl rfl)); replace HB := aa (hb); replace HI0 := aa (hi); (try clear hb hk hi)) | (refine gc_ Tryd.func49 (some 18) #[.pointer (some ⟨g, 0, none⟩)] ?_; (with_reducible refine (spec_l1Bent.calls k g s0_0 t108 t109 t110 w0 _ zhpbib zicchn A6.out).mono ?_); rintro e w14 ⟨rfl, hi, hb, hk⟩; refine ⟨_, rfl, ?_⟩; replace HO103 := aa (Kd.R_mono (Kd.R_keep (IsS80.apart (zhpbib : IsS80 w0 _ g s0_0 t108) (zcaken HO103.out) (by decide)) hk (fun _ h => h.2)) (fun _ h => h.1)); replace HK := aa (KeepBut.trans zncgdm hk (.inl rfl)); replace HB := aa (hb); replace HI0 := aa (hi); (try clear hb hk hi); have p9 : 0 ≤ (t105 : Int) := of_decide_eq_true zgglam; have q9 : (t105 : Int) < ((t101.length : Int) : Int) := of_decide_eq_true zgglam; obtain ⟨go9, co9, eo9, gb9, gl9, cl9, HG9⟩ := Kd.R_form HO103.out (by omega); (first | cases eo9 | (injection eo9 with ea_ en_ ec_; (first | subst ea_ | (injection ea_ with ea_; subst ea_)); subst ec_; clear en_)); have GB9 := aa gb9; have GG9 := aa HG9; clear gb9 gl9 HG9; obtain ⟨ce9, hcl9, hM9, hcc9, hfr9⟩ := Kd.R_elem HO103.out z32 (t105 : Int) p9 q9; obtain rfl := k32_openM hM9; have hx9_0 : w14.cell? ⟨go9, (t105 : Int).toNat * 5, none⟩ = some (.string ((rd_T32 t101 t105).f0)) := hcc9 0 _ rfl; have hx9_1 : w14.cell? ⟨go9, (t105 : Int).toNat * 5 + 1, none⟩ = some (.int .i64 ((rd_T32 t101 t105).f1)) := hcc9 1 _ rfl; have hx9_2 : w14.cell? ⟨go9, (t105 : Int).toNat * 5 + 2, none⟩ = some (.int .i64 ((rd_T32 t101 t105).f2)) := hcc9 2 _ rfl; have hx9_3 : w14.cell? ⟨go9, (t105 : Int).toNat * 5 + 3, none⟩ = some (.int .i64 ((rd_T32 t101 t105).f3)) := hcc9 3 _ rfl; have hx9_4 : w14.cell? ⟨go9, (t105 : Int).toNat * 5 + 4, none⟩ = some (.int .i64 ((rd_T32 t101 t105).f4)) := hcc9 4 _ rfl; have hf9_0 : w14.frozen? ⟨go9, (t105 : Int).toNat * 5, none⟩ = false := hfr9 0; have hf9_1 : w14.frozen? ⟨go9, (t105 : Int).toNat * 5 + 1, none⟩ = false := hfr9 1; have hf9_2 : w14.frozen? ⟨go9, (t105 : Int).toNat * 5 + 2, none⟩ = false := hfr9 2; have hf9_3 : w14.frozen? ⟨go9, (t105 : Int).toNat * 5 + 3, none⟩ = false := hfr9 3; have hf9_4 : w14.frozen? ⟨go9, (t105 : Int).toNat * 5 + 4, none⟩ = false := hfr9 4; clear hcl9 hcc9 hfr9 hM9; replace p9 := eq_true p9; replace q9 := eq_true q9; have HX15 := aa (show Kd.R k32 32 w14 w.heap.size (fun _ => True) (.slice (some ⟨go9, 0, none⟩) t101.length co11) t101 from (zcaken HO103.out)); obtain ⟨ce15, hcl15, hM15, hcc15, hfr15⟩ := Kd.R_elem HX15.out z32 (t105 : Int) (of_decide_eq_true zgglam) (by have h_ : (t105 : Int) < ((t101.length : Int) : Int) := of_decide_eq_true zgglam; first | exact h_ | (have e_ := (Kd.R_reads' HO103.out).1; omega) | simpa using h_); obtain rfl := k32_openM hM15; have HP15 := Kd.R_seg HX15.out (t105 : Int) (of_decide_eq_true zgglam) (by have h_ : (t105 : Int) < ((t101.length : Int) : Int) := of_decide_eq_true zgglam; first | exact h_ | (have e_ := (Kd.R_reads' HO103.out).1; omega) | simpa using h_) (seg := [.string t109]) (j := 0) hcl15 hcc15 (show 1 ≤ 5 from by decide) (x' := (⟨t109, (rd_T32 t101 t105).f1, (rd_T32 t101 t105).f2, (rd_T32 t101 t105).f3, (rd_T32 t101 t105).f4⟩ : S32)) (k32_mkM _ _ _ (⟨t109, (rd_T32 t101 t105).f1, (rd_T32 t101 t105).f2, (rd_T32 t101 t105).f3, (rd_T32 t101 t105).f4⟩ : S32) ) (fun _ hk => hk); have hx15_0 := hcc15 0 _ rfl; (try simp only [show (k32).sz = 5 from rfl, Nat.mul_one, Nat.add_zero] at hx15_0); have hf15_0 := hfr15 0; (try simp only [show (k32).sz = 5 from rfl, Nat.mul_one, Nat.add_zero] at hf15_0); clear hcl15 hcc15 hfr15 hM15) | ((with_reducible refine gate_store (t := 9) (p := 20) rfl ?_); refine store_event (t := 9) (p := 20) (v := ?vo_w16) (w1 := (w14.setCell ⟨go9, (t105 : Int).toNat * 5, none⟩ (.string t109))) ?hg ?ho ?hn ?hr ?_; (case ho => rfl); (case hg => rfl); (case hn => rfl); (case hr => exact zhlgcp); intro w16 hw; have hg : w14.grownBy w16 (some go9) := (by rw [hw]; exact HP15.2); have hp_ : Kd.R k32 32 w16 w.heap.size (fun _ => True) (.slice (some ⟨go9, 0, none⟩) t101.length co11) y111 := (by rw [hw, Ny111.out]; exact HP15.1); clear HP15; have n0_ := aa (IsS80.grown zhpbib hg (IsS80.own_ne HI0.out HO103.out (by decide))); have n1_ := aa (hp_); have n2_ := aa ((by rw [hw]; exact below_set (HB.out) (Nat.le_trans HL.out GB9.out) : Below w0.heap.size w0 w16)); have n3_ := aa (KeepBut.trans zncgdm (KeepBut.of_grown hg g) (Kd.R_base2 HO103.out)); clear HI0; clear HO103; clear HB; clear HK; have HI0 := n0_; have HO103 := n1_; have HB := n2_; have HK := n3_; clear n0_ n1_ n2_ n3_; clear hg hw hp_))
  go_ret
  exact ⟨_, zlhpib, zcaken HO103.out, zhpbib, zicchn, zncgdm⟩
 revert H
 refine itE_ (fun c17b0 c17b1 H => ?_) fun c17b0 c17b1 H => ?_
 ·
  obtain ⟨y112, hy112⟩ : ∃ y_ : List Int, y_ = (([(-1), 10000] : List Int)) := ⟨_, rfl⟩
  replace H : ((spec_l1Pick.f s0_0 t108 y112).bind fun bt115 => (if 0 ≤ t105 then (if t105 < (t101.length : Int) then (some ((t101.set (t105 : Int).toNat (⟨(rd_T32 t101 t105).f0, bt115.1, (rd_T32 t101 t105).f2, (rd_T32 t101 t105).f3, (rd_T32 t101 t105).f4⟩ : S32)), bt115.2)) else (none)) else (none))) = some (r1, r2) := by cases hy112; exact H
  have Ny112 := aa hy112
  clear hy112
  revert H
  refine ob2_ fun t115 t116 A18 H => ?_
  (try dsimp only at H)
  revert H
  refine itH_ fun c19b0 H => ?_
  revert H
  refine itH_ fun c20b0 H => ?_
  obtain ⟨y117, hy117⟩ : ∃ y_ : List (S32), y_ = (t101.set (t105 : Int).toNat (⟨(rd_T32 t101 t105).f0, t115, (rd_T32 t101 t105).f2, (rd_T32 t101 t105).f3, (rd_T32 t101 t105).f4⟩ : S32)) := ⟨_, rfl⟩
  replace H : (some (y117, t116)) = some (r1, r2) := by cases hy117; exact H
  have Ny117 := aa hy117
  clear hy117
  simp only [Option.some.injEq, Prod.mk.injEq] at H
  obtain ⟨rfl, rfl⟩ := H
  go_enter Tryd.func48, Tryd.ntmps48
  go_wp2_with (first | (refine gc_ Tryd.func72 (some 6) #[.pointer (some ⟨g, 0, none⟩)] ?_; (with_reducible refine (spec_l2Right.calls k g s0_0 s0_1 t101 t104 w0 _ zhpbib zicchn A2.out).mono ?_); rintro e w22 ⟨v102, rfl, ho0, hi, hb, hk⟩; refine ⟨_, rfl, ?_⟩; have HO103 := aa (Kd.R_lower ho0 (keep_size (w := w) (g := g) (row := none) zncgdm)); replace HK := aa (KeepBut.trans zncgdm hk (.inl rfl)); replace HB := aa (hb); replace HI0 := aa (hi); (try clear hb hk hi ho0); obtain ⟨Ao23, co23, eo23⟩ := Kd.R_slice HO103.out; subst eo23) | (refine gc_ Tryd.func27 (some 10) #[.pointer (some ⟨g, 0, none⟩), .int .i64 (t101.length : Int)] ?_; (with_reducible refine (spec_l1Next.calls g s0_0 t104 (t101.length : Int) t105 t106 w0 _ zhpbib zicchn A3.out).mono ?_); rintro e w24 ⟨rfl, hi, hb, hk⟩; refine ⟨_, rfl, ?_⟩; replace HO103 := aa (Kd.R_mono (Kd.R_keep (IsS80.apart (zhpbib : IsS80 w0 _ g s0_0 t104) (zcaken HO103.out) (by decide)) hk (fun _ h => h.2)) (fun _ h => h.1)); replace HK := aa (KeepBut.trans zncgdm hk (.inl rfl)); replace HB := aa (hb); replace HI0 := aa (hi); (try clear hb hk hi)) | (refine gc_ Tryd.func27 (some 12) #[.pointer (some ⟨g, 0, none⟩), .int .i64 14] ?_; (with_reducible refine (spec_l1Next.calls g s0_0 t106 14 t107 t108 w0 _ zhpbib zicchn A4.out).mono ?_); rintro e w25 ⟨rfl, hi, hb, hk⟩; refine ⟨_, rfl, ?_⟩; replace HO103 := aa (Kd.R_mono (Kd.R_keep (IsS80.apart (zhpbib : IsS80 w0 _ g s0_0 t106) (zcaken HO103.out) (by decide)) hk (fun _ h => h.2)) (fun _ h => h.1)); replace HK := aa (KeepBut.trans zncgdm hk (.inl rfl)); replace HB := aa (hb); replace HI0 := aa (hi); (try clear hb hk hi)) | ((with_reducible refine gate_dst (N := 26) rfl ?_); refine Kd.R_lit (Kd.int .i64) _ 2 ?hg (N := 26) ?hd (xs := ([(-1), 10000] : List Int)) (inner := [.int .i64 (-1), .int .i64 10000]) (ok := fun _ => True) (okp := fun _ => True) ?hr ?hp (fun _ hk => hk) trivial (Below.refl _ _) (Nat.le_refl _) (by simp) ?_; (case hd => rfl); (case hg => rfl); (case hr => exact zhlgcp); (case hp => exact (Reps.one (show Kd.M (Kd.int .i64) _ _ _ (-1) [.int .i64 (-1)] from rfl) (Reps.one (show Kd.M (Kd.int .i64) _ _ _ 10000 [.int .i64 10000] from rfl) (Reps.none _ _)))); intro v113 w26 ho27 hb hg_ hnew_; clear hg_ hnew_; (first | rw [← Ny112.out] at ho27 | (simp only [Int.reduceToNat] at ho27; rw [← Ny112.out] at ho27)); have n0_ := aa (Kd.R_below (zcaken HO103.out) hb); have n1_ := aa (Kd.R_lower ho27 (keep_size (w := w) (g := g) (row := none) zncgdm)); have n2_ := aa (IsS80.below zhpbib hb); have n3_ := aa (KeepBut.trans zncgdm (KeepBut.of_below hb g none) (.inl rfl)); have n4_ := aa (below_step zicchn hb); clear HO103; clear HI0; clear HK; clear HB; have HO103 := n0_; have HO114 := n1_; have HI0 := n2_; have HK := n3_; have HB := n4_; clear n0_ n1_ n2_ n3_ n4_; clear hb ho27; obtain ⟨Ao28, co28, eo28⟩ := Kd.R_slice HO114.out; subst eo28) | (refine gc_ Tryd.func26 (some 27) #[.pointer (some ⟨g, 0, none⟩), .slice Ao28 y112.length co28] ?_; (with_reducible refine (spec_l1Pick.calls g s0_0 t108 _ _ y112 t115 t116 w0 _ ?side1 ?side2 ?side3 ?side4 ?side5 A18.out).mono ?_); (case side1 => exact zhpbib); (case side2 => exact zicchn); (case side3 => exact zoakhk); (case side4 => exact (Kd.R_reads' HO114.out).2.1); (case side5 => exact far_slice (IsS80.own_ne HI0.out HO114.out (by decide))); rintro e w29 ⟨rfl, hi, hb, hk⟩; refine ⟨_, rfl, ?_⟩; replace HO103 := aa (Kd.R_mono (Kd.R_keep (IsS80.apart (zhpbib : IsS80 w0 _ g s0_0 t108) (zcaken HO103.out) (by decide)) hk (fun _ h => h.2)) (fun _ h => h.1)); replace HO114 := aa (Kd.R_mono (Kd.R_keep (IsS80.apart (zhpbib : IsS80 w0 _ g s0_0 t108) (zcaken HO114.out) (by decide)) hk (fun _ h => h.2)) (fun _ h => h.1)); replace HK := aa (KeepBut.trans zncgdm hk (.inl rfl)); replace HB := aa (hb); replace HI0 := aa (hi); (try clear hb hk hi); have p21 : 0 ≤ (t105 : Int) := of_decide_eq_true zgglam; have q21 : (t105 : Int) < ((t101.length : Int) : Int) := of_decide_eq_true zgglam; obtain ⟨go21, co21, eo21, gb21, gl21, cl21, HG21⟩ := Kd.R_form HO103.out (by omega); (first | cases eo21 | (injection eo21 with ea_ en_ ec_; (first | subst ea_ | (injection ea_ with ea_; subst ea_)); subst ec_; clear en_)); have GB21 := aa gb21; have GG21 := aa HG21; clear gb21 gl21 HG21; obtain ⟨ce21, hcl21, hM21, hcc21, hfr21⟩ := Kd.R_elem HO103.out z32 (t105 : Int) p21 q21; obtain rfl := k32_openM hM21; have hx21_0 : w29.cell? ⟨go21, (t105 : Int).toNat * 5, none⟩ = some (.string ((rd_T32 t101 t105).f0)) := hcc21 0 _ rfl; have hx21_1 : w29.cell? ⟨go21, (t105 : Int).toNat * 5 + 1, none⟩ = some (.int .i64 ((rd_T32 t101 t105).f1)) := hcc21 1 _ rfl; have hx21_2 : w29.cell? ⟨go21, (t105 : Int).toNat * 5 + 2, none⟩ = some (.int .i64 ((rd_T32 t101 t105).f2)) := hcc21 2 _ rfl; have hx21_3 : w29.cell? ⟨go21, (t105 : Int).toNat * 5 + 3, none⟩ = some (.int .i64 ((rd_T32 t101 t105).f3)) := hcc21 3 _ rfl; have hx21_4 : w29.cell? ⟨go21, (t105 : Int).toNat * 5 + 4, none⟩ = some (.int .i64 ((rd_T32 t101 t105).f4)) := hcc21 4 _ rfl; have hf21_0 : w29.frozen? ⟨go21, (t105 : Int).toNat * 5, none⟩ = false := hfr21 0; have hf21_1 : w29.frozen? ⟨go21, (t105 : Int).toNat * 5 + 1, none⟩ = false := hfr21 1; have hf21_2 : w29.frozen? ⟨go21, (t105 : Int).toNat * 5 + 2, none⟩ = false := hfr21 2; have hf21_3 : w29.frozen? ⟨go21, (t105 : Int).toNat * 5 + 3, none⟩ = false := hfr21 3; have hf21_4 : w29.frozen? ⟨go21, (t105 : Int).toNat * 5 + 4, none⟩ = false := hfr21 4; clear hcl21 hcc21 hfr21 hM21; replace p21 := eq_true p21; replace q21 := eq_true q21; have HX30 := aa (show Kd.R k32 32 w29 w.heap.size (fun _ => True) (.slice (some ⟨go21, 0, none⟩) t101.length co23) t101 from (zcaken HO103.out)); obtain ⟨ce30, hcl30, hM30, hcc30, hfr30⟩ := Kd.R_elem HX30.out z32 (t105 : Int) (of_decide_eq_true zgglam) (by have h_ : (t105 : Int) < ((t101.length : Int) : Int) := of_decide_eq_true zgglam; first | exact h_ | (have e_ := (Kd.R_reads' HO103.out).1; omega) | simpa using h_); obtain rfl := k32_openM hM30; have HP30 := Kd.R_seg HX30.out (t105 : Int) (of_decide_eq_true zgglam) (by have h_ : (t105 : Int) < ((t101.length : Int) : Int) := of_decide_eq_true zgglam; first | exact h_ | (have e_ := (Kd.R_reads' HO103.out).1; omega) | simpa using h_) (seg := [.int .i64 t115]) (j := 1) hcl30 hcc30 (show 2 ≤ 5 from by decide) (x' := (⟨(rd_T32 t101 t105).f0, t115, (rd_T32 t101 t105).f2, (rd_T32 t101 t105).f3, (rd_T32 t101 t105).f4⟩ : S32)) (k32_mkM _ _ _ (⟨(rd_T32 t101 t105).f0, t115, (rd_T32 t101 t105).f2, (rd_T32 t101 t105).f3, (rd_T32 t101 t105).f4⟩ : S32) ) (fun _ hk => hk); have hx30_1 := hcc30 1 _ rfl; (try simp only [show (k32).sz = 5 from rfl, Nat.mul_one, Nat.add_zero] at hx30_1); have hf30_1 := hfr30 1; (try simp only [show (k32).sz = 5 from rfl, Nat.mul_one, Nat.add_zero] at hf30_1); clear hcl30 hcc30 hfr30 hM30) | ((with_reducible refine gate_store (t := 2) (p := 29) rfl ?_); refine store_event (t := 2) (p := 29) (v := ?vo_w31) (w1 := (w29.setCell ⟨go21, (t105 : Int).toNat * 5 + 1, none⟩ (.int .i64 t115))) ?hg ?ho ?hn ?hr ?_; (case ho => rfl); (case hg => rfl); (case hn => rfl); (case hr => exact zhlgcp); intro w31 hw; have hg : w29.grownBy w31 (some go21) := (by rw [hw]; exact HP30.2); have hp_ : Kd.R k32 32 w31 w.heap.size (fun _ => True) (.slice (some ⟨go21, 0, none⟩) t101.length co23) y117 := (by rw [hw, Ny117.out]; exact HP30.1); clear HP30; have n0_ := aa (IsS80.grown zhpbib hg (IsS80.own_ne HI0.out HO103.out (by decide))); have n1_ := aa (hp_); have n2_ := aa (Kd.R_over' (v := (.slice (some ⟨go21, 0, none⟩) t101.length co23)) (zcaken HO114.out) (Kd.R_typed HO103.out) (by decide) hg); have n3_ := aa ((by rw [hw]; exact below_set (HB.out) (Nat.le_trans HL.out GB21.out) : Below w0.heap.size w0 w31)); have n4_ := aa (KeepBut.trans zncgdm (KeepBut.of_grown hg g) (Kd.R_base2 HO103.out)); clear HI0; clear HO103; clear HO114; clear HB; clear HK; have HI0 := n0_; have HO103 := n1_; have HO114 := n2_; have HB := n3_; have HK := n4_; clear n0_ n1_ n2_ n3_ n4_; clear hg hw hp_))
  go_ret
  exact ⟨_, zlhpib, zcaken HO103.out, zhpbib, zicchn, zncgdm⟩
 revert H
 refine itE_ (fun c32b0 c32b1 H => ?_) fun c32b0 c32b1 H => ?_
 ·
  obtain ⟨y118, hy118⟩ : ∃ y_ : List Int, y_ = (([(-1), 999, 1000] : List Int)) := ⟨_, rfl⟩
  replace H : ((spec_l1Pick.f s0_0 t108 y118).bind fun bt121 => (if 0 ≤ t105 then (if t105 < (t101.length : Int) then (some ((t101.set (t105 : Int).toNat (⟨(rd_T32 t101 t105).f0, (rd_T32 t101 t105).f1, bt121.1, (rd_T32 t101 t105).f3, (rd_T32 t101 t105).f4⟩ : S32)), bt121.2)) else (none)) else (none))) = some (r1, r2) := by cases hy118; exact H
  have Ny118 := aa hy118
  clear hy118
  revert H
  refine ob2_ fun t121 t122 A33 H => ?_
  (try dsimp only at H)
  revert H
  refine itH_ fun c34b0 H => ?_
  revert H
  refine itH_ fun c35b0 H => ?_
  obtain ⟨y123, hy123⟩ : ∃ y_ : List (S32), y_ = (t101.set (t105 : Int).toNat (⟨(rd_T32 t101 t105).f0, (rd_T32 t101 t105).f1, t121, (rd_T32 t101 t105).f3, (rd_T32 t101 t105).f4⟩ : S32)) := ⟨_, rfl⟩
  replace H : (some (y123, t122)) = some (r1, r2) := by cases hy123; exact H
  have Ny123 := aa hy123
  clear hy123
  simp only [Option.some.injEq, Prod.mk.injEq] at H
  obtain ⟨rfl, rfl⟩ := H
  go_enter Tryd.func48, Tryd.ntmps48
  go_wp2_with (first | (refine gc_ Tryd.func72 (some 6) #[.pointer (some ⟨g, 0, none⟩)] ?_; (with_reducible refine (spec_l2Right.calls k g s0_0 s0_1 t101 t104 w0 _ zhpbib zicchn A2.out).mono ?_); rintro e w37 ⟨v102, rfl, ho0, hi, hb, hk⟩; refine ⟨_, rfl, ?_⟩; have HO103 := aa (Kd.R_lower ho0 (keep_size (w := w) (g := g) (row := none) zncgdm)); replace HK := aa (KeepBut.trans zncgdm hk (.inl rfl)); replace HB := aa (hb); replace HI0 := aa (hi); (try clear hb hk hi ho0); obtain ⟨Ao38, co38, eo38⟩ := Kd.R_slice HO103.out; subst eo38) | (refine gc_ Tryd.func27 (some 10) #[.pointer (some ⟨g, 0, none⟩), .int .i64 (t101.length : Int)] ?_; (with_reducible refine (spec_l1Next.calls g s0_0 t104 (t101.length : Int) t105 t106 w0 _ zhpbib zicchn A3.out).mono ?_); rintro e w39 ⟨rfl, hi, hb, hk⟩; refine ⟨_, rfl, ?_⟩; replace HO103 := aa (Kd.R_mono (Kd.R_keep (IsS80.apart (zhpbib : IsS80 w0 _ g s0_0 t104) (zcaken HO103.out) (by decide)) hk (fun _ h => h.2)) (fun _ h => h.1)); replace HK := aa (KeepBut.trans zncgdm hk (.inl rfl)); replace HB := aa (hb); replace HI0 := aa (hi); (try clear hb hk hi)) | (refine gc_ Tryd.func27 (some 12) #[.pointer (some ⟨g, 0, none⟩), .int .i64 14] ?_; (with_reducible refine (spec_l1Next.calls g s0_0 t106 14 t107 t108 w0 _ zhpbib zicchn A4.out).mono ?_); rintro e w40 ⟨rfl, hi, hb, hk⟩; refine ⟨_, rfl, ?_⟩; replace HO103 := aa (Kd.R_mono (Kd.R_keep (IsS80.apart (zhpbib : IsS80 w0 _ g s0_0 t106) (zcaken HO103.out) (by decide)) hk (fun _ h => h.2)) (fun _ h => h.1)); replace HK := aa (KeepBut.trans zncgdm hk (.inl rfl)); replace HB := aa (hb); replace HI0 := aa (hi); (try clear hb hk hi)) | ((with_reducible refine gate_dst (N := 35) rfl ?_); refine Kd.R_lit (Kd.int .i64) _ 2 ?hg (N := 35) ?hd (xs := ([(-1), 999, 1000] : List Int)) (inner := [.int .i64 (-1), .int .i64 999, .int .i64 1000]) (ok := fun _ => True) (okp := fun _ => True) ?hr ?hp (fun _ hk => hk) trivial (Below.refl _ _) (Nat.le_refl _) (by simp) ?_; (case hd => rfl); (case hg => rfl); (case hr => exact zhlgcp); (case hp => exact (Reps.one (show Kd.M (Kd.int .i64) _ _ _ (-1) [.int .i64 (-1)] from rfl) (Reps.one (show Kd.M (Kd.int .i64) _ _ _ 999 [.int .i64 999] from rfl) (Reps.one (show Kd.M (Kd.int .i64) _ _ _ 1000 [.int .i64 1000] from rfl) (Reps.none _ _))))); intro v119 w41 ho42 hb hg_ hnew_; clear hg_ hnew_; (first | rw [← Ny118.out] at ho42 | (simp only [Int.reduceToNat] at ho42; rw [← Ny118.out] at ho42)); have n0_ := aa (Kd.R_below (zcaken HO103.out) hb); have n1_ := aa (Kd.R_lower ho42 (keep_size (w := w) (g := g) (row := none) zncgdm)); have n2_ := aa (IsS80.below zhpbib hb); have n3_ := aa (KeepBut.trans zncgdm (KeepBut.of_below hb g none) (.inl rfl)); have n4_ := aa (below_step zicchn hb); clear HO103; clear HI0; clear HK; clear HB; have HO103 := n0_; have HO120 := n1_; have HI0 := n2_; have HK := n3_; have HB := n4_; clear n0_ n1_ n2_ n3_ n4_; clear hb ho42; obtain ⟨Ao43, co43, eo43⟩ := Kd.R_slice HO120.out; subst eo43) | (refine gc_ Tryd.func26 (some 36) #[.pointer (some ⟨g, 0, none⟩), .slice Ao43 y118.length co43] ?_; (with_reducible refine (spec_l1Pick.calls g s0_0 t108 _ _ y118 t121 t122 w0 _ ?side1 ?side2 ?side3 ?side4 ?side5 A33.out).mono ?_); (case side1 => exact zhpbib); (case side2 => exact zicchn); (case side3 => repeat (first | exact (Kd.R_reads' HO120.out).2.2 | (with_reducible refine Kd.C_alloc ?_ _) | (with_reducible refine Kd.C_drewN ?_ _) | (with_reducible refine Kd.C_drew ?_))); (case side4 => exact (Kd.R_reads' HO120.out).2.1); (case side5 => exact far_slice (IsS80.own_ne HI0.out HO120.out (by decide))); rintro e w44 ⟨rfl, hi, hb, hk⟩; refine ⟨_, rfl, ?_⟩; replace HO103 := aa (Kd.R_mono (Kd.R_keep (IsS80.apart (zhpbib : IsS80 w0 _ g s0_0 t108) (zcaken HO103.out) (by decide)) hk (fun _ h => h.2)) (fun _ h => h.1)); replace HO120 := aa (Kd.R_mono (Kd.R_keep (IsS80.apart (zhpbib : IsS80 w0 _ g s0_0 t108) (zcaken HO120.out) (by decide)) hk (fun _ h => h.2)) (fun _ h => h.1)); replace HK := aa (KeepBut.trans zncgdm hk (.inl rfl)); replace HB := aa (hb); replace HI0 := aa (hi); (try clear hb hk hi); have p36 : 0 ≤ (t105 : Int) := of_decide_eq_true zgglam; have q36 : (t105 : Int) < ((t101.length : Int) : Int) := of_decide_eq_true zgglam; obtain ⟨go36, co36, eo36, gb36, gl36, cl36, HG36⟩ := Kd.R_form HO103.out (by omega); (first | cases eo36 | (injection eo36 with ea_ en_ ec_; (first | subst ea_ | (injection ea_ with ea_; subst ea_)); subst ec_; clear en_)); have GB36 := aa gb36; have GG36 := aa HG36; clear gb36 gl36 HG36; obtain ⟨ce36, hcl36, hM36, hcc36, hfr36⟩ := Kd.R_elem HO103.out z32 (t105 : Int) p36 q36; obtain rfl := k32_openM hM36; have hx36_0 : w44.cell? ⟨go36, (t105 : Int).toNat * 5, none⟩ = some (.string ((rd_T32 t101 t105).f0)) := hcc36 0 _ rfl; have hx36_1 : w44.cell? ⟨go36, (t105 : Int).toNat * 5 + 1, none⟩ = some (.int .i64 ((rd_T32 t101 t105).f1)) := hcc36 1 _ rfl; have hx36_2 : w44.cell? ⟨go36, (t105 : Int).toNat * 5 + 2, none⟩ = some (.int .i64 ((rd_T32 t101 t105).f2)) := hcc36 2 _ rfl; have hx36_3 : w44.cell? ⟨go36, (t105 : Int).toNat * 5 + 3, none⟩ = some (.int .i64 ((rd_T32 t101 t105).f3)) := hcc36 3 _ rfl; have hx36_4 : w44.cell? ⟨go36, (t105 : Int).toNat * 5 + 4, none⟩ = some (.int .i64 ((rd_T32 t101 t105).f4)) := hcc36 4 _ rfl; have hf36_0 : w44.frozen? ⟨go36, (t105 : Int).toNat * 5, none⟩ = false := hfr36 0; have hf36_1 : w44.frozen? ⟨go36, (t105 : Int).toNat * 5 + 1, none⟩ = false := hfr36 1; have hf36_2 : w44.frozen? ⟨go36, (t105 : Int).toNat * 5 + 2, none⟩ = false := hfr36 2; have hf36_3 : w44.frozen? ⟨go36, (t105 : Int).toNat * 5 + 3, none⟩ = false := hfr36 3; have hf36_4 : w44.frozen? ⟨go36, (t105 : Int).toNat * 5 + 4, none⟩ = false := hfr36 4; clear hcl36 hcc36 hfr36 hM36; replace p36 := eq_true p36; replace q36 := eq_true q36; have HX45 := aa (show Kd.R k32 32 w44 w.heap.size (fun _ => True) (.slice (some ⟨go36, 0, none⟩) t101.length co38) t101 from (zcaken HO103.out)); obtain ⟨ce45, hcl45, hM45, hcc45, hfr45⟩ := Kd.R_elem HX45.out z32 (t105 : Int) (of_decide_eq_true zgglam) (by have h_ : (t105 : Int) < ((t101.length : Int) : Int) := of_decide_eq_true zgglam; first | exact h_ | (have e_ := (Kd.R_reads' HO103.out).1; omega) | simpa using h_); obtain rfl := k32_openM hM45; have HP45 := Kd.R_seg HX45.out (t105 : Int) (of_decide_eq_true zgglam) (by have h_ : (t105 : Int) < ((t101.length : Int) : Int) := of_decide_eq_true zgglam; first | exact h_ | (have e_ := (Kd.R_reads' HO103.out).1; omega) | simpa using h_) (seg := [.int .i64 t121]) (j := 2) hcl45 hcc45 (show 3 ≤ 5 from by decide) (x' := (⟨(rd_T32 t101 t105).f0, (rd_T32 t101 t105).f1, t121, (rd_T32 t101 t105).f3, (rd_T32 t101 t105).f4⟩ : S32)) (k32_mkM _ _ _ (⟨(rd_T32 t101 t105).f0, (rd_T32 t101 t105).f1, t121, (rd_T32 t101 t105).f3, (rd_T32 t101 t105).f4⟩ : S32) ) (fun _ hk => hk); have hx45_2 := hcc45 2 _ rfl; (try simp only [show (k32).sz = 5 from rfl, Nat.mul_one, Nat.add_zero] at hx45_2); have hf45_2 := hfr45 2; (try simp only [show (k32).sz = 5 from rfl, Nat.mul_one, Nat.add_zero] at hf45_2); clear hcl45 hcc45 hfr45 hM45) | ((with_reducible refine gate_store (t := 2) (p := 38) rfl ?_); refine store_event (t := 2) (p := 38) (v := ?vo_w46) (w1 := (w44.setCell ⟨go36, (t105 : Int).toNat * 5 + 2, none⟩ (.int .i64 t121))) ?hg ?ho ?hn ?hr ?_; (case ho => rfl); (case hg => rfl); (case hn => rfl); (case hr => exact zhlgcp); intro w46 hw; have hg : w44.grownBy w46 (some go36) := (by rw [hw]; exact HP45.2); have hp_ : Kd.R k32 32 w46 w.heap.size (fun _ => True) (.slice (some ⟨go36, 0, none⟩) t101.length co38) y123 := (by rw [hw, Ny123.out]; exact HP45.1); clear HP45; have n0_ := aa (IsS80.grown zhpbib hg (IsS80.own_ne HI0.out HO103.out (by decide))); have n1_ := aa (hp_); have n2_ := aa (Kd.R_over' (v := (.slice (some ⟨go36, 0, none⟩) t101.length co38)) (zcaken HO120.out) (Kd.R_typed HO103.out) (by decide) hg); have n3_ := aa ((by rw [hw]; exact below_set (HB.out) (Nat.le_trans HL.out GB36.out) : Below w0.heap.size w0 w46)); have n4_ := aa (KeepBut.trans zncgdm (KeepBut.of_grown hg g) (Kd.R_base2 HO103.out)); clear HI0; clear HO103; clear HO120; clear HB; clear HK; have HI0 := n0_; have HO103 := n1_; have HO120 := n2_; have HB := n3_; have HK := n4_; clear n0_ n1_ n2_ n3_ n4_; clear hg hw hp_))
  go_ret
  exact ⟨_, zlhpib, zcaken HO103.out, zhpbib, zicchn, zncgdm⟩
 revert H
 refine itE_ (fun c47b0 c47b1 H => ?_) fun c47b0 c47b1 H => ?_
 ·
  obtain ⟨y124, hy124⟩ : ∃ y_ : List Int, y_ = (([3, 10] : List Int)) := ⟨_, rfl⟩
  replace H : ((spec_l1Pick.f s0_0 t108 y124).bind fun bt127 => (if 0 ≤ t105 then (if t105 < (t101.length : Int) then (some ((t101.set (t105 : Int).toNat (⟨(rd_T32 t101 t105).f0, (rd_T32 t101 t105).f1, (rd_T32 t101 t105).f2, bt127.1, (rd_T32 t101 t105).f4⟩ : S32)), bt127.2)) else (none)) else (none))) = some (r1, r2) := by cases hy124; exact H
  have Ny124 := aa hy124
  clear hy124
  revert H
  refine ob2_ fun t127 t128 A48 H => ?_
  (try dsimp only at H)
  revert H
  refine itH_ fun c49b0 H => ?_
  revert H
  refine itH_ fun c50b0 H => ?_
  obtain ⟨y129, hy129⟩ : ∃ y_ : List (S32), y_ = (t101.set (t105 : Int).toNat (⟨(rd_T32 t101 t105).f0, (rd_T32 t101 t105).f1, (rd_T32 t101 t105).f2, t127, (rd_T32 t101 t105).f4⟩ : S32)) := ⟨_, rfl⟩
  replace H : (some (y129, t128)) = some (r1, r2) := by cases hy129; exact H
  have Ny129 := aa hy129
  clear hy129
  simp only [Option.some.injEq, Prod.mk.injEq] at H
  obtain ⟨rfl, rfl⟩ := H
  go_enter Tryd.func48, Tryd.ntmps48
  go_wp2_with (first | (refine gc_ Tryd.func72 (some 6) #[.pointer (some ⟨g, 0, none⟩)] ?_; (with_reducible refine (spec_l2Right.calls k g s0_0 s0_1 t101 t104 w0 _ zhpbib zicchn A2.out).mono ?_); rintro e w52 ⟨v102, rfl, ho0, hi, hb, hk⟩; refine ⟨_, rfl, ?_⟩; have HO103 := aa (Kd.R_lower ho0 (keep_size (w := w) (g := g) (row := none) zncgdm)); replace HK := aa (KeepBut.trans zncgdm hk (.inl rfl)); replace HB := aa (hb); replace HI0 := aa (hi); (try clear hb hk hi ho0); obtain ⟨Ao53, co53, eo53⟩ := Kd.R_slice HO103.out; subst eo53) | (refine gc_ Tryd.func27 (some 10) #[.pointer (some ⟨g, 0, none⟩), .int .i64 (t101.length : Int)] ?_; (with_reducible refine (spec_l1Next.calls g s0_0 t104 (t101.length : Int) t105 t106 w0 _ zhpbib zicchn A3.out).mono ?_); rintro e w54 ⟨rfl, hi, hb, hk⟩; refine ⟨_, rfl, ?_⟩; replace HO103 := aa (Kd.R_mono (Kd.R_keep (IsS80.apart (zhpbib : IsS80 w0 _ g s0_0 t104) (zcaken HO103.out) (by decide)) hk (fun _ h => h.2)) (fun _ h => h.1)); replace HK := aa (KeepBut.trans zncgdm hk (.inl rfl)); replace HB := aa (hb); replace HI0 := aa (hi); (try clear hb hk hi)) | (refine gc_ Tryd.func27 (some 12) #[.pointer (some ⟨g, 0, none⟩), .int .i64 14] ?_; (with_reducible refine (spec_l1Next.calls g s0_0 t106 14 t107 t108 w0 _ zhpbib zicchn A4.out).mono ?_); rintro e w55 ⟨rfl, hi, hb, hk⟩; refine ⟨_, rfl, ?_⟩; replace HO103 := aa (Kd.R_mono (Kd.R_keep (IsS80.apart (zhpbib : IsS80 w0 _ g s0_0 t106) (zcaken HO103.out) (by decide)) hk (fun _ h => h.2)) (fun _ h => h.1)); replace HK := aa (KeepBut.trans zncgdm hk (.inl rfl)); replace HB := aa (hb); replace HI0 := aa (hi); (try clear hb hk hi)) | ((with_reducible refine gate_dst (N := 44) rfl ?_); refine Kd.R_lit (Kd.int .i64) _ 2 ?hg (N := 44) ?hd (xs := ([3, 10] : List Int)) (inner := [.int .i64 3, .int .i64 10]) (ok := fun _ => True) (okp := fun _ => True) ?hr ?hp (fun _ hk => hk) trivial (Below.refl _ _) (Nat.le_refl _) (by simp) ?_; (case hd => rfl); (case hg => rfl); (case hr => exact zhlgcp); (case hp => exact (Reps.one (show Kd.M (Kd.int .i64) _ _ _ 3 [.int .i64 3] from rfl) (Reps.one (show Kd.M (Kd.int .i64) _ _ _ 10 [.int .i64 10] from rfl) (Reps.none _ _)))); intro v125 w56 ho57 hb hg_ hnew_; clear hg_ hnew_; (first | rw [← Ny124.out] at ho57 | (simp only [Int.reduceToNat] at ho57; rw [← Ny124.out] at ho57)); have n0_ := aa (Kd.R_below (zcaken HO103.out) hb); have n1_ := aa (Kd.R_lower ho57 (keep_size (w := w) (g := g) (row := none) zncgdm)); have n2_ := aa (IsS80.below zhpbib hb); have n3_ := aa (KeepBut.trans zncgdm (KeepBut.of_below hb g none) (.inl rfl)); have n4_ := aa (below_step zicchn hb); clear HO103; clear HI0; clear HK; clear HB; have HO103 := n0_; have HO126 := n1_; have HI0 := n2_; have HK := n3_; have HB := n4_; clear n0_ n1_ n2_ n3_ n4_; clear hb ho57; obtain ⟨Ao58, co58, eo58⟩ := Kd.R_slice HO126.out; subst eo58) | (refine gc_ Tryd.func26 (some 45) #[.pointer (some ⟨g, 0, none⟩), .slice Ao58 y124.length co58] ?_; (with_reducible refine (spec_l1Pick.calls g s0_0 t108 _ _ y124 t127 t128 w0 _ ?side1 ?side2 ?side3 ?side4 ?side5 A48.out).mono ?_); (case side1 => exact zhpbib); (case side2 => exact zicchn); (case side3 => repeat (first | exact (Kd.R_reads' HO126.out).2.2 | (with_reducible refine Kd.C_alloc ?_ _) | (with_reducible refine Kd.C_drewN ?_ _) | (with_reducible refine Kd.C_drew ?_))); (case side4 => exact (Kd.R_reads' HO126.out).2.1); (case side5 => exact far_slice (IsS80.own_ne HI0.out HO126.out (by decide))); rintro e w59 ⟨rfl, hi, hb, hk⟩; refine ⟨_, rfl, ?_⟩; replace HO103 := aa (Kd.R_mono (Kd.R_keep (IsS80.apart (zhpbib : IsS80 w0 _ g s0_0 t108) (zcaken HO103.out) (by decide)) hk (fun _ h => h.2)) (fun _ h => h.1)); replace HO126 := aa (Kd.R_mono (Kd.R_keep (IsS80.apart (zhpbib : IsS80 w0 _ g s0_0 t108) (zcaken HO126.out) (by decide)) hk (fun _ h => h.2)) (fun _ h => h.1)); replace HK := aa (KeepBut.trans zncgdm hk (.inl rfl)); replace HB := aa (hb); replace HI0 := aa (hi); (try clear hb hk hi); have p51 : 0 ≤ (t105 : Int) := of_decide_eq_true zgglam; have q51 : (t105 : Int) < ((t101.length : Int) : Int) := of_decide_eq_true zgglam; obtain ⟨go51, co51, eo51, gb51, gl51, cl51, HG51⟩ := Kd.R_form HO103.out (by omega); (first | cases eo51 | (injection eo51 with ea_ en_ ec_; (first | subst ea_ | (injection ea_ with ea_; subst ea_)); subst ec_; clear en_)); have GB51 := aa gb51; have GG51 := aa HG51; clear gb51 gl51 HG51; obtain ⟨ce51, hcl51, hM51, hcc51, hfr51⟩ := Kd.R_elem HO103.out z32 (t105 : Int) p51 q51; obtain rfl := k32_openM hM51; have hx51_0 : w59.cell? ⟨go51, (t105 : Int).toNat * 5, none⟩ = some (.string ((rd_T32 t101 t105).f0)) := hcc51 0 _ rfl; have hx51_1 : w59.cell? ⟨go51, (t105 : Int).toNat * 5 + 1, none⟩ = some (.int .i64 ((rd_T32 t101 t105).f1)) := hcc51 1 _ rfl; have hx51_2 : w59.cell? ⟨go51, (t105 : Int).toNat * 5 + 2, none⟩ = some (.int .i64 ((rd_T32 t101 t105).f2)) := hcc51 2 _ rfl; have hx51_3 : w59.cell? ⟨go51, (t105 : Int).toNat * 5 + 3, none⟩ = some (.int .i64 ((rd_T32 t101 t105).f3)) := hcc51 3 _ rfl; have hx51_4 : w59.cell? ⟨go51, (t105 : Int).toNat * 5 + 4, none⟩ = some (.int .i64 ((rd_T32 t101 t105).f4)) := hcc51 4 _ rfl; have hf51_0 : w59.frozen? ⟨go51, (t105 : Int).toNat * 5, none⟩ = false := hfr51 0; have hf51_1 : w59.frozen? ⟨go51, (t105 : Int).toNat * 5 + 1, none⟩ = false := hfr51 1; have hf51_2 : w59.frozen? ⟨go51, (t105 : Int).toNat * 5 + 2, none⟩ = false := hfr51 2; have hf51_3 : w59.frozen? ⟨go51, (t105 : Int).toNat * 5 + 3, none⟩ = false := hfr51 3; have hf51_4 : w59.frozen? ⟨go51, (t105 : Int).toNat * 5 + 4, none⟩ = false := hfr51 4; clear hcl51 hcc51 hfr51 hM51; replace p51 := eq_true p51; replace q51 := eq_true q51; have HX60 := aa (show Kd.R k32 32 w59 w.heap.size (fun _ => True) (.slice (some ⟨go51, 0, none⟩) t101.length co53) t101 from (zcaken HO103.out)); obtain ⟨ce60, hcl60, hM60, hcc60, hfr60⟩ := Kd.R_elem HX60.out z32 (t105 : Int) (of_decide_eq_true zgglam) (by have h_ : (t105 : Int) < ((t101.length : Int) : Int) := of_decide_eq_true zgglam; first | exact h_ | (have e_ := (Kd.R_reads' HO103.out).1; omega) | simpa using h_); obtain rfl := k32_openM hM60; have HP60 := Kd.R_seg HX60.out (t105 : Int) (of_decide_eq_true zgglam) (by have h_ : (t105 : Int) < ((t101.length : Int) : Int) := of_decide_eq_true zgglam; first | exact h_ | (have e_ := (Kd.R_reads' HO103.out).1; omega) | simpa using h_) (seg := [.int .i64 t127]) (j := 3) hcl60 hcc60 (show 4 ≤ 5 from by decide) (x' := (⟨(rd_T32 t101 t105).f0, (rd_T32 t101 t105).f1, (rd_T32 t101 t105).f2, t127, (rd_T32 t101 t105).f4⟩ : S32)) (k32_mkM _ _ _ (⟨(rd_T32 t101 t105).f0, (rd_T32 t101 t105).f1, (rd_T32 t101 t105).f2, t127, (rd_T32 t101 t105).f4⟩ : S32) ) (fun _ hk => hk); have hx60_3 := hcc60 3 _ rfl; (try simp only [show (k32).sz = 5 from rfl, Nat.mul_one, Nat.add_zero] at hx60_3); have hf60_3 := hfr60 3; (try simp only [show (k32).sz = 5 from rfl, Nat.mul_one, Nat.add_zero] at hf60_3); clear hcl60 hcc60 hfr60 hM60) | ((with_reducible refine gate_store (t := 2) (p := 47) rfl ?_); refine store_event (t := 2) (p := 47) (v := ?vo_w61) (w1 := (w59.setCell ⟨go51, (t105 : Int).toNat * 5 + 3, none⟩ (.int .i64 t127))) ?hg ?ho ?hn ?hr ?_; (case ho => rfl); (case hg => rfl); (case hn => rfl); (case hr => exact zhlgcp); intro w61 hw; have hg : w59.grownBy w61 (some go51) := (by rw [hw]; exact HP60.2); have hp_ : Kd.R k32 32 w61 w.heap.size (fun _ => True) (.slice (some ⟨go51, 0, none⟩) t101.length co53) y129 := (by rw [hw, Ny129.out]; exact HP60.1); clear HP60; have n0_ := aa (IsS80.grown zhpbib hg (IsS80.own_ne HI0.out HO103.out (by decide))); have n1_ := aa (hp_); have n2_ := aa (Kd.R_over' (v := (.slice (some ⟨go51, 0, none⟩) t101.length co53)) (zcaken HO126.out) (Kd.R_typed HO103.out) (by decide) hg); have n3_ := aa ((by rw [hw]; exact below_set (HB.out) (Nat.le_trans HL.out GB51.out) : Below w0.heap.size w0 w61)); have n4_ := aa (KeepBut.trans zncgdm (KeepBut.of_grown hg g) (Kd.R_base2 HO103.out)); clear HI0; clear HO103; clear HO126; clear HB; clear HK; have HI0 := n0_; have HO103 := n1_; have HO126 := n2_; have HB := n3_; have HK := n4_; clear n0_ n1_ n2_ n3_ n4_; clear hg hw hp_))
  go_ret
  exact ⟨_, zlhpib, zcaken HO103.out, zhpbib, zicchn, zncgdm⟩
 revert H
 refine itE_ (fun c62b0 c62b1 H => ?_) fun c62b0 c62b1 H => ?_
 ·
  obtain ⟨y130, hy130⟩ : ∃ y_ : List Int, y_ = (([100, 101] : List Int)) := ⟨_, rfl⟩
  replace H : ((spec_l1Pick.f s0_0 t108 y130).bind fun bt133 => (if 0 ≤ t105 then (if t105 < (t101.length : Int) then (some ((t101.set (t105 : Int).toNat (⟨(rd_T32 t101 t105).f0, (rd_T32 t101 t105).f1, (rd_T32 t101 t105).f2, (rd_T32 t101 t105).f3, bt133.1⟩ : S32)), bt133.2)) else (none)) else (none))) = some (r1, r2) := by cases hy130; exact H
  have Ny130 := aa hy130
  clear hy130
  revert H
  refine ob2_ fun t133 t134 A63 H => ?_
  (try dsimp only at H)
  revert H
  refine itH_ fun c64b0 H => ?_
  revert H
  refine itH_ fun c65b0 H => ?_
  obtain ⟨y135, hy135⟩ : ∃ y_ : List (S32), y_ = (t101.set (t105 : Int).toNat (⟨(rd_T32 t101 t105).f0, (rd_T32 t101 t105).f1, (rd_T32 t101 t105).f2, (rd_T32 t101 t105).f3, t133⟩ : S32)) := ⟨_, rfl⟩
  replace H : (some (y135, t134)) = some (r1, r2) := by cases hy135; exact H
  have Ny135 := aa hy135
  clear hy135
  simp only [Option.some.injEq, Prod.mk.injEq] at H
  obtain ⟨rfl, rfl⟩ := H
  go_enter Tryd.func48, Tryd.ntmps48
  go_wp2_with (first | (refine gc_ Tryd.func72 (some 6) #[.pointer (some ⟨g, 0, none⟩)] ?_; (with_reducible refine (spec_l2Right.calls k g s0_0 s0_1 t101 t104 w0 _ zhpbib zicchn A2.out).mono ?_); rintro e w67 ⟨v102, rfl, ho0, hi, hb, hk⟩; refine ⟨_, rfl, ?_⟩; have HO103 := aa (Kd.R_lower ho0 (keep_size (w := w) (g := g) (row := none) zncgdm)); replace HK := aa (KeepBut.trans zncgdm hk (.inl rfl)); replace HB := aa (hb); replace HI0 := aa (hi); (try clear hb hk hi ho0); obtain ⟨Ao68, co68, eo68⟩ := Kd.R_slice HO103.out; subst eo68) | (refine gc_ Tryd.func27 (some 10) #[.pointer (some ⟨g, 0, none⟩), .int .i64 (t101.length : Int)] ?_; (with_reducible refine (spec_l1Next.calls g s0_0 t104 (t101.length : Int) t105 t106 w0 _ zhpbib zicchn A3.out).mono ?_); rintro e w69 ⟨rfl, hi, hb, hk⟩; refine ⟨_, rfl, ?_⟩; replace HO103 := aa (Kd.R_mono (Kd.R_keep (IsS80.apart (zhpbib : IsS80 w0 _ g s0_0 t104) (zcaken HO103.out) (by decide)) hk (fun _ h => h.2)) (fun _ h => h.1)); replace HK := aa (KeepBut.trans zncgdm hk (.inl rfl)); replace HB := aa (hb); replace HI0 := aa (hi); (try clear hb hk hi)) | (refine gc_ Tryd.func27 (some 12) #[.pointer (some ⟨g, 0, none⟩), .int .i64 14] ?_; (with_reducible refine (spec_l1Next.calls g s0_0 t106 14 t107 t108 w0 _ zhpbib zicchn A4.out).mono ?_); rintro e w70 ⟨rfl, hi, hb, hk⟩; refine ⟨_, rfl, ?_⟩; replace HO103 := aa (Kd.R_mono (Kd.R_keep (IsS80.apart (zhpbib : IsS80 w0 _ g s0_0 t106) (zcaken HO103.out) (by decide)) hk (fun _ h => h.2)) (fun _ h => h.1)); replace HK := aa (KeepBut.trans zncgdm hk (.inl rfl)); replace HB := aa (hb); replace HI0 := aa (hi); (try clear hb hk hi)) | ((with_reducible refine gate_dst (N := 53) rfl ?_); refine Kd.R_lit (Kd.int .i64) _ 2 ?hg (N := 53) ?hd (xs := ([100, 101] : List Int)) (inner := [.int .i64 100, .int .i64 101]) (ok := fun _ => True) (okp := fun _ => True) ?hr ?hp (fun _ hk => hk) trivial (Below.refl _ _) (Nat.le_refl _) (by simp) ?_; (case hd => rfl); (case hg => rfl); (case hr => exact zhlgcp); (case hp => exact (Reps.one (show Kd.M (Kd.int .i64) _ _ _ 100 [.int .i64 100] from rfl) (Reps.one (show Kd.M (Kd.int .i64) _ _ _ 101 [.int .i64 101] from rfl) (Reps.none _ _)))); intro v131 w71 ho72 hb hg_ hnew_; clear hg_ hnew_; (first | rw [← Ny130.out] at ho72 | (simp only [Int.reduceToNat] at ho72; rw [← Ny130.out] at ho72)); have n0_ := aa (Kd.R_below (zcaken HO103.out) hb); have n1_ := aa (Kd.R_lower ho72 (keep_size (w := w) (g := g) (row := none) zncgdm)); have n2_ := aa (IsS80.below zhpbib hb); have n3_ := aa (KeepBut.trans zncgdm (KeepBut.of_below hb g none) (.inl rfl)); have n4_ := aa (below_step zicchn hb); clear HO103; clear HI0; clear HK; clear HB; have HO103 := n0_; have HO132 := n1_; have HI0 := n2_; have HK := n3_; have HB := n4_; clear n0_ n1_ n2_ n3_ n4_; clear hb ho72; obtain ⟨Ao73, co73, eo73⟩ := Kd.R_slice HO132.out; subst eo73) | (refine gc_ Tryd.func26 (some 54) #[.pointer (some ⟨g, 0, none⟩), .slice Ao73 y130.length co73] ?_; (with_reducible refine (spec_l1Pick.calls g s0_0 t108 _ _ y130 t133 t134 w0 _ ?side1 ?side2 ?side3 ?side4 ?side5 A63.out).mono ?_); (case side1 => exact zhpbib); (case side2 => exact zicchn); (case side3 => repeat (first | exact (Kd.R_reads' HO132.out).2.2 | (with_reducible refine Kd.C_alloc ?_ _) | (with_reducible refine Kd.C_drewN ?_ _) | (with_reducible refine Kd.C_drew ?_))); (case side4 => exact (Kd.R_reads' HO132.out).2.1); (case side5 => exact far_slice (IsS80.own_ne HI0.out HO132.out (by decide))); rintro e w74 ⟨rfl, hi, hb, hk⟩; refine ⟨_, rfl, ?_⟩; replace HO103 := aa (Kd.R_mono (Kd.R_keep (IsS80.apart (zhpbib : IsS80 w0 _ g s0_0 t108) (zcaken HO103.out) (by decide)) hk (fun _ h => h.2)) (fun _ h => h.1)); replace HO132 := aa (Kd.R_mono (Kd.R_keep (IsS80.apart (zhpbib : IsS80 w0 _ g s0_0 t108) (zcaken HO132.out) (by decide)) hk (fun _ h => h.2)) (fun _ h => h.1)); replace HK := aa (KeepBut.trans zncgdm hk (.inl rfl)); replace HB := aa (hb); replace HI0 := aa (hi); (try clear hb hk hi); have p66 : 0 ≤ (t105 : Int) := of_decide_eq_true zgglam; have q66 : (t105 : Int) < ((t101.length : Int) : Int) := of_decide_eq_true zgglam; obtain ⟨go66, co66, eo66, gb66, gl66, cl66, HG66⟩ := Kd.R_form HO103.out (by omega); (first | cases eo66 | (injection eo66 with ea_ en_ ec_; (first | subst ea_ | (injection ea_ with ea_; subst ea_)); subst ec_; clear en_)); have GB66 := aa gb66; have GG66 := aa HG66; clear gb66 gl66 HG66; obtain ⟨ce66, hcl66, hM66, hcc66, hfr66⟩ := Kd.R_elem HO103.out z32 (t105 : Int) p66 q66; obtain rfl := k32_openM hM66; have hx66_0 : w74.cell? ⟨go66, (t105 : Int).toNat * 5, none⟩ = some (.string ((rd_T32 t101 t105).f0)) := hcc66 0 _ rfl; have hx66_1 : w74.cell? ⟨go66, (t105 : Int).toNat * 5 + 1, none⟩ = some (.int .i64 ((rd_T32 t101 t105).f1)) := hcc66 1 _ rfl; have hx66_2 : w74.cell? ⟨go66, (t105 : Int).toNat * 5 + 2, none⟩ = some (.int .i64 ((rd_T32 t101 t105).f2)) := hcc66 2 _ rfl; have hx66_3 : w74.cell? ⟨go66, (t105 : Int).toNat * 5 + 3, none⟩ = some (.int .i64 ((rd_T32 t101 t105).f3)) := hcc66 3 _ rfl; have hx66_4 : w74.cell? ⟨go66, (t105 : Int).toNat * 5 + 4, none⟩ = some (.int .i64 ((rd_T32 t101 t105).f4)) := hcc66 4 _ rfl; have hf66_0 : w74.frozen? ⟨go66, (t105 : Int).toNat * 5, none⟩ = false := hfr66 0; have hf66_1 : w74.frozen? ⟨go66, (t105 : Int).toNat * 5 + 1, none⟩ = false := hfr66 1; have hf66_2 : w74.frozen? ⟨go66, (t105 : Int).toNat * 5 + 2, none⟩ = false := hfr66 2; have hf66_3 : w74.frozen? ⟨go66, (t105 : Int).toNat * 5 + 3, none⟩ = false := hfr66 3; have hf66_4 : w74.frozen? ⟨go66, (t105 : Int).toNat * 5 + 4, none⟩ = false := hfr66 4; clear hcl66 hcc66 hfr66 hM66; replace p66 := eq_true p66; replace q66 := eq_true q66; have HX75 := aa (show Kd.R k32 32 w74 w.heap.size (fun _ => True) (.slice (some ⟨go66, 0, none⟩) t101.length co68) t101 from (zcaken HO103.out)); obtain ⟨ce75, hcl75, hM75, hcc75, hfr75⟩ := Kd.R_elem HX75.out z32 (t105 : Int) (of_decide_eq_true zgglam) (by have h_ : (t105 : Int) < ((t101.length : Int) : Int) := of_decide_eq_true zgglam; first | exact h_ | (have e_ := (Kd.R_reads' HO103.out).1; omega) | simpa using h_); obtain rfl := k32_openM hM75; have HP75 := Kd.R_seg HX75.out (t105 : Int) (of_decide_eq_true zgglam) (by have h_ : (t105 : Int) < ((t101.length : Int) : Int) := of_decide_eq_true zgglam; first | exact h_ | (have e_ := (Kd.R_reads' HO103.out).1; omega) | simpa using h_) (seg := [.int .i64 t133]) (j := 4) hcl75 hcc75 (show 5 ≤ 5 from by decide) (x' := (⟨(rd_T32 t101 t105).f0, (rd_T32 t101 t105).f1, (rd_T32 t101 t105).f2, (rd_T32 t101 t105).f3, t133⟩ : S32)) (k32_mkM _ _ _ (⟨(rd_T32 t101 t105).f0, (rd_T32 t101 t105).f1, (rd_T32 t101 t105).f2, (rd_T32 t101 t105).f3, t133⟩ : S32) ) (fun _ hk => hk); have hx75_4 := hcc75 4 _ rfl; (try simp only [show (k32).sz = 5 from rfl, Nat.mul_one, Nat.add_zero] at hx75_4); have hf75_4 := hfr75 4; (try simp only [show (k32).sz = 5 from rfl, Nat.mul_one, Nat.add_zero] at hf75_4); clear hcl75 hcc75 hfr75 hM75) | ((with_reducible refine gate_store (t := 2) (p := 56) rfl ?_); refine store_event (t := 2) (p := 56) (v := ?vo_w76) (w1 := (w74.setCell ⟨go66, (t105 : Int).toNat * 5 + 4, none⟩ (.int .i64 t133))) ?hg ?ho ?hn ?hr ?_; (case ho => rfl); (case hg => rfl); (case hn => rfl); (case hr => exact zhlgcp); intro w76 hw; have hg : w74.grownBy w76 (some go66) := (by rw [hw]; exact HP75.2); have hp_ : Kd.R k32 32 w76 w.heap.size (fun _ => True) (.slice (some ⟨go66, 0, none⟩) t101.length co68) y135 := (by rw [hw, Ny135.out]; exact HP75.1); clear HP75; have n0_ := aa (IsS80.grown zhpbib hg (IsS80.own_ne HI0.out HO103.out (by decide))); have n1_ := aa (hp_); have n2_ := aa (Kd.R_over' (v := (.slice (some ⟨go66, 0, none⟩) t101.length co68)) (zcaken HO132.out) (Kd.R_typed HO103.out) (by decide) hg); have n3_ := aa ((by rw [hw]; exact below_set (HB.out) (Nat.le_trans HL.out GB66.out) : Below w0.heap.size w0 w76)); have n4_ := aa (KeepBut.trans zncgdm (KeepBut.of_grown hg g) (Kd.R_base2 HO103.out)); clear HI0; clear HO103; clear HO132; clear HB; clear HK; have HI0 := n0_; have HO103 := n1_; have HO132 := n2_; have HB := n3_; have HK := n4_; clear n0_ n1_ n2_ n3_ n4_; clear hg hw hp_))
  go_ret
  exact ⟨_, zlhpib, zcaken HO103.out, zhpbib, zicchn, zncgdm⟩
 revert H
 refine itE_ (fun c77b0 c77b1 H => ?_) fun c77b0 c77b1 H => ?_
 ·
  revert H
  refine itG_ fun c78 H => ?_
  have c78b0 := eq_true c78
  have c78b1 := decide_eq_true c78
  clear c78
  obtain ⟨y136, hy136⟩ : ∃ y_ : List (S32), y_ = (List.replicate 21 z32) := ⟨_, rfl⟩
  replace H : (some (y136, t108)) = some (r1, r2) := by cases hy136; exact H
  have Ny136 := aa hy136
  clear hy136
  simp only [Option.some.injEq, Prod.mk.injEq] at H
  obtain ⟨rfl, rfl⟩ := H
  go_enter Tryd.func48, Tryd.ntmps48
  go_wp2_with (first | (refine gc_ Tryd.func72 (some 6) #[.pointer (some ⟨g, 0, none⟩)] ?_; (with_reducible refine (spec_l2Right.calls k g s0_0 s0_1 t101 t104 w0 _ zhpbib zicchn A2.out).mono ?_); rintro e w79 ⟨v102, rfl, ho0, hi, hb, hk⟩; refine ⟨_, rfl, ?_⟩; have HO103 := aa (Kd.R_lower ho0 (keep_size (w := w) (g := g) (row := none) zncgdm)); replace HK := aa (KeepBut.trans zncgdm hk (.inl rfl)); replace HB := aa (hb); replace HI0 := aa (hi); (try clear hb hk hi ho0); obtain ⟨Ao80, co80, eo80⟩ := Kd.R_slice HO103.out; subst eo80) | (refine gc_ Tryd.func27 (some 10) #[.pointer (some ⟨g, 0, none⟩), .int .i64 (t101.length : Int)] ?_; (with_reducible refine (spec_l1Next.calls g s0_0 t104 (t101.length : Int) t105 t106 w0 _ zhpbib zicchn A3.out).mono ?_); rintro e w81 ⟨rfl, hi, hb, hk⟩; refine ⟨_, rfl, ?_⟩; replace HO103 := aa (Kd.R_mono (Kd.R_keep (IsS80.apart (zhpbib : IsS80 w0 _ g s0_0 t104) (zcaken HO103.out) (by decide)) hk (fun _ h => h.2)) (fun _ h => h.1)); replace HK := aa (KeepBut.trans zncgdm hk (.inl rfl)); replace HB := aa (hb); replace HI0 := aa (hi); (try clear hb hk hi)) | (refine gc_ Tryd.func27 (some 12) #[.pointer (some ⟨g, 0, none⟩), .int .i64 14] ?_; (with_reducible refine (spec_l1Next.calls g s0_0 t106 14 t107 t108 w0 _ zhpbib zicchn A4.out).mono ?_); rintro e w82 ⟨rfl, hi, hb, hk⟩; refine ⟨_, rfl, ?_⟩; replace HO103 := aa (Kd.R_mono (Kd.R_keep (IsS80.apart (zhpbib : IsS80 w0 _ g s0_0 t106) (zcaken HO103.out) (by decide)) hk (fun _ h => h.2)) (fun _ h => h.1)); replace HK := aa (KeepBut.trans zncgdm hk (.inl rfl)); replace HB := aa (hb); replace HI0 := aa (hi); (try clear hb hk hi)) | ((with_reducible refine gate_dst (N := 59) rfl ?_); refine Kd.R_make k32 _ 32 rfl (N := 59) rfl 24 _ _ rfl 21 rfl rfl Tryd.underlying24 (.agg #[(.string ⟨#[]⟩), (.int .i64 0), (.int .i64 0), (.int .i64 0), (.int .i64 0)]) 48 info32 rfl (by decide) (by omega) z32 (ok := fun _ => True) (okp := fun _ => True) (k32_mkM _ _ _ z32 ) (fun _ hk => hk) trivial (by omega) (by omega) (Below.refl _ _) (Nat.le_refl _) ?_; intro v137 w83 ho84 hb hg_ hnew_; clear hg_ hnew_; (first | rw [← Ny136.out] at ho84 | (simp only [Int.reduceToNat] at ho84; rw [← Ny136.out] at ho84)); have n0_ := aa (Kd.R_elder' (zcaken HO103.out) (Kd.R_base ho84) hb); have n1_ := aa (Kd.R_lower (Kd.R_new' ho84 (Kd.R_lt (zcaken HO103.out))) (keep_size (w := w) (g := g) (row := none) zncgdm)); have n2_ := aa (IsS80.below zhpbib hb); have n3_ := aa (KeepBut.trans zncgdm (KeepBut.of_below hb g none) (.inl rfl)); have n4_ := aa (below_step zicchn hb); clear HO103; clear HI0; clear HK; clear HB; have HO103 := n0_; have HO138 := n1_; have HI0 := n2_; have HK := n3_; have HB := n4_; clear n0_ n1_ n2_ n3_ n4_; clear hb ho84))
  go_ret
  exact ⟨_, zlhpib, by (with_reducible repeat (first | apply Kd.R_alloc | apply Kd.R_drewN | apply Kd.R_drew)); exact Kd.R_mono HO138.out (fun _ hk => trivial), zhpbib, zicchn, zncgdm⟩
 simp only [Option.some.injEq, Prod.mk.injEq] at H
 obtain ⟨rfl, rfl⟩ := H
 go_enter Tryd.func48, Tryd.ntmps48
 go_wp2_with (first | (refine gc_ Tryd.func72 (some 6) #[.pointer (some ⟨g, 0, none⟩)] ?_; (with_reducible refine (spec_l2Right.calls k g s0_0 s0_1 t101 t104 w0 _ zhpbib zicchn A2.out).mono ?_); rintro e w85 ⟨v102, rfl, ho0, hi, hb, hk⟩; refine ⟨_, rfl, ?_⟩; have HO103 := aa (Kd.R_lower ho0 (keep_size (w := w) (g := g) (row := none) zncgdm)); replace HK := aa (KeepBut.trans zncgdm hk (.inl rfl)); replace HB := aa (hb); replace HI0 := aa (hi); (try clear hb hk hi ho0); obtain ⟨Ao86, co86, eo86⟩ := Kd.R_slice HO103.out; subst eo86) | (refine gc_ Tryd.func27 (some 10) #[.pointer (some ⟨g, 0, none⟩), .int .i64 (t101.length : Int)] ?_; (with_reducible refine (spec_l1Next.calls g s0_0 t104 (t101.length : Int) t105 t106 w0 _ zhpbib zicchn A3.out).mono ?_); rintro e w87 ⟨rfl, hi, hb, hk⟩; refine ⟨_, rfl, ?_⟩; replace HO103 := aa (Kd.R_mono (Kd.R_keep (IsS80.apart (zhpbib : IsS80 w0 _ g s0_0 t104) (zcaken HO103.out) (by decide)) hk (fun _ h => h.2)) (fun _ h => h.1)); replace HK := aa (KeepBut.trans zncgdm hk (.inl rfl)); replace HB := aa (hb); replace HI0 := aa (hi); (try clear hb hk hi)) | (refine gc_ Tryd.func27 (some 12) #[.pointer (some ⟨g, 0, none⟩), .int .i64 14] ?_; (with_reducible refine (spec_l1Next.calls g s0_0 t106 14 t107 t108 w0 _ zhpbib zicchn A4.out).mono ?_); rintro e w88 ⟨rfl, hi, hb, hk⟩; refine ⟨_, rfl, ?_⟩; replace HO103 := aa (Kd.R_mono (Kd.R_keep (IsS80.apart (zhpbib : IsS80 w0 _ g s0_0 t106) (zcaken HO103.out) (by decide)) hk (fun _ h => h.2)) (fun _ h => h.1)); replace HK := aa (KeepBut.trans zncgdm hk (.inl rfl)); replace HB := aa (hb); replace HI0 := aa (hi); (try clear hb hk hi)))
 go_ret
 exact ⟨_, zlhpib, zcaken HO103.out, zhpbib, zicchn, zncgdm⟩
def spec_l2With.j0 : Nat → List (S32) → Bool → List Int → Int → Option ((List (S32)) × ByteArray)
 | 0, _, _, _, _ => none
 | k + 1, x5, x16, x104000, x104001 => if x16 = true then ((spec_l1Next.f x104000 x104001 (x5.length : Int)).bind fun bt110 => (if 0 ≤ bt110.1 then (if bt110.1 < (x5.length : Int) then (some (x5, (rd_T32 x5 bt110.1).f0)) else (none)) else (none))) else ((spec_l1Bent.f k x104000 x104001).bind fun bt113 => (some (x5, bt113.1)))
def spec_l2With.f (k : Nat) (l0 : List Int) : Option ((List (S32)) × ByteArray) := (spec_l1Source.f l0).bind fun bt101 => ((spec_l2Bent.f k bt101.1 bt101.2).bind fun bt104 => (if (bt104.1.length : Int) > 0 then ((spec_l1Chance.f bt101.1 bt104.2 2).bind fun bt108 => (spec_l2With.j0 k bt104.1 bt108.1 bt101.1 bt108.2)) else (spec_l2With.j0 k bt104.1 false bt101.1 bt104.2)))
theorem spec_l2With.mono_l : ∀ k, (∀ y0 y1 y2 y3, LeO (spec_l2With.j0 k y0 y1 y2 y3) (spec_l2With.j0 (k + 1) y0 y1 y2 y3))
 | 0 => fun _ _ _ _ r h => by simp [spec_l2With.j0] at h
 | k + 1 => by
  have ih0 := spec_l2With.mono_l k
  ·
   intro y0 y1 y2 y3
   unfold spec_l2With.j0
   with_reducible repeat' first | exact ih0 _ _ _ _ | exact spec_l1Bent.mono _ _ _ | exact spec_l2Bent.mono _ _ _ | exact LeO.refl _ | exact LeO.none _ | refine LeO.ite ?_ ?_ | refine LeO.bind ?_ (fun _ => ?_)
theorem spec_l2With.mono : ∀ a0 k, LeO (spec_l2With.f k a0) (spec_l2With.f (k + 1) a0) := by
 intro a0 k
 have ih0 := spec_l2With.mono_l k
 unfold spec_l2With.f
 with_reducible repeat' first | exact ih0 _ _ _ _ | exact spec_l1Bent.mono _ _ _ | exact spec_l2Bent.mono _ _ _ | exact LeO.refl _ | exact LeO.none _ | refine LeO.ite ?_ ?_ | refine LeO.bind ?_ (fun _ => ?_)
def spec_l2With.T4 : Bool × List (List Nat × List Nat) := (true, [([], []), ([], []), ([], []), ([], []), ([3], [3]), ([2, 4], [2, 4]), ([1, 5], [1, 5]), ([6], [6]), ([7], [7]), ([0, 5, 0], [0]), ([8, 9, 0, 1, 2, 3, 4, 5, 6, 7, 8, 9], [8])])
def spec_l2With.B4 : List Nat := [0, 0, 0, 0, 8, 28, 62, 126, 254, 61, 1023]
theorem spec_l2With.tab4 : rtab .any (opsOf Tryd.f38 4) = spec_l2With.T4 := by kernel_rfl
theorem spec_l2With.bits4 : waitsOk spec_l2With.T4.2 spec_l2With.B4 = true := by kernel_rfl
theorem spec_l2With.calls (k : Nat) (A0 : Option Addr) (c0 : Nat) (l0 : List Int) (r1 : List (S32)) (r2 : ByteArray) (w : World) (hr0 : Kd.C (Kd.int .u8) w A0 l0.length l0) (hc0 : l0.length ≤ c0) (h : spec_l2With.f k l0 = some (r1, r2)) :
  Calls Tryd.prog 38 #[.slice A0 l0.length c0] w fun e w' => ∃ v0_ : Value, e = .returned (.tuple #[v0_, .string r2]) ∧ Kd.R k32 32 w' w.heap.size (fun _ => True) v0_ r1 ∧ Below w.heap.size w w' := by
 have HR0 := aa hr0
 have HC0 := aa hc0
 clear hr0 hc0
 have HB := aa (Below.refl w.heap.size w)
 have H : ((spec_l1Source.f l0).bind fun bt101 => ((spec_l2Bent.f k bt101.1 bt101.2).bind fun bt104 => (if (bt104.1.length : Int) > 0 then ((spec_l1Chance.f bt101.1 bt104.2 2).bind fun bt108 => (spec_l2With.j0 k bt104.1 bt108.1 bt101.1 bt108.2)) else (spec_l2With.j0 k bt104.1 false bt101.1 bt104.2)))) = some (r1, r2) := h
 clear h
 revert H
 refine ob2_ fun t101 t102 A2 H => ?_
 (try dsimp only at H)
 revert H
 refine ob2_ fun t104 t107 A3 H => ?_
 (try dsimp only at H)
 have HC4 := aa H
 clear H
 go_enter Tryd.func38, Tryd.ntmps38
 go_upto_region 3 with (first | (refine gc_ Tryd.func47 (some 7) #[.slice A0 l0.length c0] ?_; (with_reducible refine (spec_l1Source.calls _ _ l0 t101 t102 w _ zjjbob HR0.out HC0.out A2.out).mono ?_); rintro e w5 ⟨g103, rfl, hi, hb, hb2⟩; refine ⟨_, rfl, ?_⟩; replace HB := aa (hb); have HI103 := aa (hi); (try clear hb hb2 hk hi)) | (refine gc_ Tryd.func48 (some 9) #[.pointer (some ⟨g103, 0, none⟩)] ?_; (with_reducible refine (spec_l2Bent.calls k g103 t101 t102 t104 t107 w _ zciomi zfkoem A3.out).mono ?_); rintro e w6 ⟨v105, rfl, ho0, hi, hb, hk⟩; refine ⟨_, rfl, ?_⟩; have HO106 := aa (Kd.R_lower ho0 (below_size zfkoem)); replace HB := aa (hb); replace HI103 := aa (hi); (try clear hb hb2 hk hi ho0)))
 (try simp only [Act.put, List.setIfInBounds_toArray, List.set_cons_zero, List.set_cons_succ])
 go_cut [16] (fun v16 wc => ∃ (kq : Nat) (x16_3 : Bool) (x104001_3 : Int), v16 = .bool x16_3 ∧ Aside0 (spec_l2With.j0 kq t104 x16_3 t101 x104001_3 = some (r1, r2)) ∧ Aside0 (kq ≤ k) ∧ Aside0 (Kd.R k32 32 wc w.heap.size (fun _ => True) v105 t104) ∧ Aside0 (IsS80 w wc g103 t101 x104001_3) ∧ Aside0 (Below w.heap.size w wc))
 case first =>
  have H := HC4.out
  clear HC4
  revert H
  refine itC_ (fun c7 H => ?_) fun c7 H => ?_
  ·
   have c7b0 : decide (0 < (t104.length : Int)) = true := decide_eq_true c7
   have c7b1 : decide (0 < t104.length) = true := decide_eq_true (by omega)
   clear c7
   (first | rw [c7b0] | (simp only [i64_w, i32_w]; rw [c7b0]) | (simp only [c7b2, Bool.not_false, Bool.not_true]) | skip)
   revert H
   refine ob2_ fun t108 t109 A8 H => ?_
   (try dsimp only at H)
   have H' := aa H
   clear H
   obtain ⟨Ao9, co9, eo9⟩ := Kd.R_slice HO106.out
   subst eo9
   go_wp2_with (first | (go_at_call 50; (with_reducible refine (spec_l1Chance.calls g103 t101 t107 2 t108 t109 w _ zciomi zfkoem A8.out).mono ?_); rintro e w10 ⟨rfl, hi, hb, hk⟩; replace HO106 := aa (Kd.R_mono (Kd.R_keep (IsS80.apart (zciomi : IsS80 w _ g103 t101 t107) (zcaken HO106.out) (by decide)) hk (fun _ h => h.2)) (fun _ h => h.1)); replace HB := aa (hb); replace HI103 := aa (hi); (try clear hb hb2 hk hi)))
   go_meet
   case rel => exact ⟨_, (t108), (t109), zagbkp, H', ⟨zpacfg⟩, ⟨zcaken HO106.out⟩, ⟨zciomi⟩, ⟨zfkoem⟩⟩
  have c7b0 : decide (0 < (t104.length : Int)) = false := decide_eq_false c7
  have c7b1 : decide (0 < t104.length) = false := decide_eq_false (by omega)
  clear c7
  (first | rw [c7b0] | (simp only [i64_w, i32_w]; rw [c7b0]) | (simp only [c7b2, Bool.not_false, Bool.not_true]) | skip)
  have H' := aa H
  clear H
  obtain ⟨Ao11, co11, eo11⟩ := Kd.R_slice HO106.out
  subst eo11
  go_wp2
  go_meet
  case rel => exact ⟨_, (false), (t107), zagbkp, H', ⟨zpacfg⟩, ⟨zcaken HO106.out⟩, ⟨zciomi⟩, ⟨zfkoem⟩⟩
 case rest =>
  clear HC4
  try clear p2
  try clear c7
  try clear c7b0
  try clear c7b1
  try clear c7b2
  obtain ⟨kq, x16_3, x104001_3, rfl, HA, HJ3, HO_5, HI103, HB⟩ := hcut
  cases kq with
  | zero => exact absurd HA.out (by simp [spec_l2With.j0])
  | succ kj3 =>
   have H := HA.out
   clear HA
   simp only [spec_l2With.j0] at H
   by_cases c12 : x16_3 = true
   ·
    subst c12
    rw [if_pos rfl] at H
    revert H
    refine ob2_ fun t110 t111 A13 H => ?_
    (try dsimp only at H)
    revert H
    refine itH_ fun c14b0 H => ?_
    revert H
    refine itH_ fun c15b0 H => ?_
    simp only [Option.some.injEq, Prod.mk.injEq] at H
    obtain ⟨rfl, rfl⟩ := H
    try go_wp2
    replace HO_5 := aa (Kd.R_drew HO_5.out)
    replace HI103 := aa (IsS80.drew HI103.out)
    replace HB := aa (below_drew1 HB.out)
    obtain ⟨Ao17, co17, eo17⟩ := Kd.R_slice HO_5.out
    (first | subst eo17 | (injection eo17 with f1_ f2_ f3_; have f4_ := f1_.symm; have f5_ := f3_.symm; clear f1_ f2_ f3_; subst f4_; subst f5_))
    have p112 : 0 ≤ (t110 : Int) := of_decide_eq_true zgglam
    have q112 : t110 < (t104.length : Int) := of_decide_eq_true zgglam
    obtain ⟨ad112, e112, hx112_0, hx112_1, hx112_2, hx112_3, hx112_4⟩ := at_T32 (Kd.R_reads' HO_5.out).2.2 t110 p112 q112
    cases e112
    replace p112 := eq_true p112
    replace q112 := eq_true q112
    refine start_ (n := 11) (S := fun w' => w'.cell? (ad112.add ((t110).toNat * 5)) = some (.string ((rd_T32 t104 t110).f0)) ∧ w'.cell? ⟨(ad112.add ((t110).toNat * 5)).block, (ad112.add ((t110).toNat * 5)).off + 1, none⟩ = some (.int .i64 ((rd_T32 t104 t110).f1)) ∧ w'.cell? ⟨(ad112.add ((t110).toNat * 5)).block, (ad112.add ((t110).toNat * 5)).off + 2, none⟩ = some (.int .i64 ((rd_T32 t104 t110).f2)) ∧ w'.cell? ⟨(ad112.add ((t110).toNat * 5)).block, (ad112.add ((t110).toNat * 5)).off + 3, none⟩ = some (.int .i64 ((rd_T32 t104 t110).f3)) ∧ w'.cell? ⟨(ad112.add ((t110).toNat * 5)).block, (ad112.add ((t110).toNat * 5)).off + 4, none⟩ = some (.int .i64 ((rd_T32 t104 t110).f4))) (ds := []) #[false, false, false, false, false, false, false, false, false, false, false] (by kernel_rfl) rfl rfl ⟨hx112_0, hx112_1, hx112_2, hx112_3, hx112_4⟩ (fun hHeld => ?_); refine with_tabW spec_l2With.tab4 spec_l2With.bits4 (fun HT_ HW_ => ?_)
    generalize wc.drew = w16 at HO_5 HI103 HB hx112_0 hx112_1 hx112_2 hx112_3 hx112_4 hHeld ⊢
    refine pu0 0 17 ?_
    refine pu0 1 18 ?_
    refine pu0 2 19 ?_
    refine pu0 3 20 ?_
    refine pu0 4 21 ?_
    refine one_ (i := 5) (N := some 22) #[true, true, true, true, true, true, false, false, false, false, false] rfl rfl (one_of HT_.out (by kernel_rfl)) (by decide) (fun K hK => ?_)
    refine goes_ Tryd.func27 (by kernel_rfl) rfl #[.pointer (some ⟨g103, 0, none⟩), .int .i64 (t104.length : Int)] (by rfl) rfl rfl zjnmae ?_
    with_reducible refine (spec_l1Next.calls g103 t101 x104001_3 (t104.length : Int) t110 t111 w _ ?side1 ?side2 A13.out).mono ?_
    (case side1 => exact zciomi)
    (case side2 => exact zfkoem)
    rintro e w18 ⟨rfl, hi, hb, hk⟩
    have HS0_ := keep_cell hk (hHeld.1) (by first | (rw [add_block]; exact Kd.own_blk (IsS80.own_ne HI103.out HO_5.out (by decide))) | (show (Addr.add _ _).block ≠ _; rw [add_block]; exact Kd.own_blk (IsS80.own_ne HI103.out HO_5.out (by decide))) | exact Kd.own_blk (IsS80.own_ne HI103.out HO_5.out (by decide)))
    have HS1_ := keep_cell hk (hHeld.2.1) (by first | (rw [add_block]; exact Kd.own_blk (IsS80.own_ne HI103.out HO_5.out (by decide))) | (show (Addr.add _ _).block ≠ _; rw [add_block]; exact Kd.own_blk (IsS80.own_ne HI103.out HO_5.out (by decide))) | exact Kd.own_blk (IsS80.own_ne HI103.out HO_5.out (by decide)))
    have HS2_ := keep_cell hk (hHeld.2.2.1) (by first | (rw [add_block]; exact Kd.own_blk (IsS80.own_ne HI103.out HO_5.out (by decide))) | (show (Addr.add _ _).block ≠ _; rw [add_block]; exact Kd.own_blk (IsS80.own_ne HI103.out HO_5.out (by decide))) | exact Kd.own_blk (IsS80.own_ne HI103.out HO_5.out (by decide)))
    have HS3_ := keep_cell hk (hHeld.2.2.2.1) (by first | (rw [add_block]; exact Kd.own_blk (IsS80.own_ne HI103.out HO_5.out (by decide))) | (show (Addr.add _ _).block ≠ _; rw [add_block]; exact Kd.own_blk (IsS80.own_ne HI103.out HO_5.out (by decide))) | exact Kd.own_blk (IsS80.own_ne HI103.out HO_5.out (by decide)))
    have HS4_ := keep_cell hk (hHeld.2.2.2.2) (by first | (rw [add_block]; exact Kd.own_blk (IsS80.own_ne HI103.out HO_5.out (by decide))) | (show (Addr.add _ _).block ≠ _; rw [add_block]; exact Kd.own_blk (IsS80.own_ne HI103.out HO_5.out (by decide))) | exact Kd.own_blk (IsS80.own_ne HI103.out HO_5.out (by decide)))
    refine ⟨_, rfl, ?_⟩
    replace HO_5 := aa (Kd.R_mono (Kd.R_keep (IsS80.apart (zciomi : IsS80 w _ g103 t101 x104001_3) (zcaken HO_5.out) (by decide)) hk (fun _ h => h.2)) (fun _ h => h.1))
    replace HB := aa (hb)
    replace HI103 := aa (hi)
    (try clear hb)
    (try clear hb2)
    (try clear hk)
    (try clear hi)
    refine hK.out _ _ ⟨HS0_, HS1_, HS2_, HS3_, HS4_⟩ (fun hHeld => ?_)
    clear hK K
    refine norm_ (a' := ?_) ?_ ?_
    rotate_left
    ·
     show Act.put _ (some 22) _ = _
     simp only [Act.put, List.setIfInBounds_toArray, List.set_cons_zero, List.set_cons_succ, i64_w, i32_w]
     rfl
    refine pu0 6 23 ?_
    refine pu0 7 24 ?_
    refine pu0 9 2 ?_
    refine tk5_0 8 25 ?_
    refine pu0 10 3 ?_
    refine done_ (done_of HT_.out (by kernel_rfl)) ?_
    try go_wp2
    go_ret2
    exact ⟨_, zlhpib, zcaken HO_5.out, zfkoem⟩
   ·
    replace c12 := Bool.eq_false_iff.mpr c12
    subst c12
    rw [if_neg fT_] at H
    revert H
    refine ob2_ fun t113 t114 A19 H => ?_
    (try dsimp only at H)
    simp only [Option.some.injEq, Prod.mk.injEq] at H
    obtain ⟨rfl, rfl⟩ := H
    go_wp2_with (first | (refine gc_ Tryd.func49 (some 28) #[.pointer (some ⟨g103, 0, none⟩)] ?_; (with_reducible refine (spec_l1Bent.calls kj3 g103 t101 x104001_3 t113 t114 w _ zciomi zfkoem A19.out).mono ?_); rintro e w20 ⟨rfl, hi, hb, hk⟩; refine ⟨_, rfl, ?_⟩; replace HO_5 := aa (Kd.R_mono (Kd.R_keep (IsS80.apart (zciomi : IsS80 w _ g103 t101 x104001_3) (zcaken HO_5.out) (by decide)) hk (fun _ h => h.2)) (fun _ h => h.1)); replace HB := aa (hb); replace HI103 := aa (hi); (try clear hb hb2 hk hi)))
    go_ret2
    exact ⟨_, zlhpib, zcaken HO_5.out, zfkoem⟩
def spec_DrawDeleteZ.f (k : Nat) (l0 : List Int) : Option ((List (S32)) × ByteArray × Int) := (spec_l2With.f k l0).bind fun bt101 => ((spec_l1Later.f l0 4).bind fun bt105 => ((spec_l1Pick.f bt105.1 bt105.2 (([(-1), 0, 1, (-2)] : List Int))).bind fun bt111 => (some (bt101.1, bt101.2, bt111.1))))
theorem spec_DrawDeleteZ.mono : ∀ a0 k, LeO (spec_DrawDeleteZ.f k a0) (spec_DrawDeleteZ.f (k + 1) a0) := by
 intro a0 k
 unfold spec_DrawDeleteZ.f
 with_reducible repeat' first | exact spec_l2With.mono _ _ | exact LeO.refl _ | exact LeO.none _ | refine LeO.ite ?_ ?_ | refine LeO.bind ?_ (fun _ => ?_)
theorem spec_DrawDeleteZ.calls (k : Nat) (A0 : Option Addr) (c0 : Nat) (l0 : List Int) (r1 : List (S32)) (r2 : ByteArray) (r3 : Int) (w : World) (hr0 : Kd.C (Kd.int .u8) w A0 l0.length l0) (hc0 : l0.length ≤ c0) (h : spec_DrawDeleteZ.f k l0 = some (r1, r2, r3)) :
  Calls Tryd.prog 13 #[.slice A0 l0.length c0] w fun e w' => ∃ v0_ : Value, e = .returned (.tuple #[v0_, .string r2, .int .i64 r3]) ∧ Kd.R k32 32 w' w.heap.size (fun _ => True) v0_ r1 ∧ Below w.heap.size w w' := by
 have HR0 := aa hr0
 have HC0 := aa hc0
 clear hr0 hc0
 have HB := aa (Below.refl w.heap.size w)
 have H : ((spec_l2With.f k l0).bind fun bt101 => ((spec_l1Later.f l0 4).bind fun bt105 => ((spec_l1Pick.f bt105.1 bt105.2 (([(-1), 0, 1, (-2)] : List Int))).bind fun bt111 => (some (bt101.1, bt101.2, bt111.1))))) = some (r1, r2, r3) := h
 clear h
 revert H
 refine ob2_ fun t101 t102 A2 H => ?_
 (try dsimp only at H)
 revert H
 refine ob2_ fun t105 t106 A3 H => ?_
 (try dsimp only at H)
 obtain ⟨y108, hy108⟩ : ∃ y_ : List Int, y_ = (([(-1), 0, 1, (-2)] : List Int)) := ⟨_, rfl⟩
 replace H : ((spec_l1Pick.f t105 t106 y108).bind fun bt111 => (some (t101, t102, bt111.1))) = some (r1, r2, r3) := by cases hy108; exact H
 have Ny108 := aa hy108
 clear hy108
 revert H
 refine ob2_ fun t111 t112 A4 H => ?_
 (try dsimp only at H)
 simp only [Option.some.injEq, Prod.mk.injEq] at H
 obtain ⟨rfl, rfl, rfl⟩ := H
 go_enter Tryd.func13, Tryd.ntmps13
 go_wp2_with (first | (refine gc_ Tryd.func38 (some 10) #[.slice A0 l0.length c0] ?_; (with_reducible refine (spec_l2With.calls k _ _ l0 t101 t102 _ zebgon HC0.out A2.out).mono ?_); rintro e w5 ⟨v103, rfl, ho0, hb⟩; refine ⟨_, rfl, ?_⟩; have HO104 := aa (Kd.R_lower ho0 (below_size zjjbob)); replace HB := aa (below_step zjjbob hb); (try clear hb hb2 hk hi ho0)) | (refine gc_ Tryd.func25 (some 14) #[.slice A0 l0.length c0, .int .i64 4] ?_; (with_reducible refine (spec_l1Later.calls _ _ l0 4 t105 t106 w _ zjjbob HR0.out HC0.out A3.out).mono ?_); rintro e w6 ⟨g107, rfl, hi, hb, hb2⟩; refine ⟨_, rfl, ?_⟩; replace HO104 := aa (Kd.R_below (zcaken HO104.out) hb2); replace HB := aa (hb); have HI107 := aa (hi); (try clear hb hb2 hk hi)) | ((with_reducible refine gate_dst (N := 18) rfl ?_); refine Kd.R_lit (Kd.int .i64) _ 2 ?hg (N := 18) ?hd (xs := ([(-1), 0, 1, (-2)] : List Int)) (inner := [.int .i64 (-1), .int .i64 0, .int .i64 1, .int .i64 (-2)]) (ok := fun _ => True) (okp := fun _ => True) ?hr ?hp (fun _ hk => hk) trivial (Below.refl _ _) (Nat.le_refl _) (by simp) ?_; (case hd => rfl); (case hg => rfl); (case hr => exact zhlgcp); (case hp => exact (Reps.one (show Kd.M (Kd.int .i64) _ _ _ (-1) [.int .i64 (-1)] from rfl) (Reps.one (show Kd.M (Kd.int .i64) _ _ _ 0 [.int .i64 0] from rfl) (Reps.one (show Kd.M (Kd.int .i64) _ _ _ 1 [.int .i64 1] from rfl) (Reps.one (show Kd.M (Kd.int .i64) _ _ _ (-2) [.int .i64 (-2)] from rfl) (Reps.none _ _)))))); intro v109 w7 ho8 hb hg_ hnew_; clear hg_ hnew_; (first | rw [← Ny108.out] at ho8 | (simp only [Int.reduceToNat] at ho8; rw [← Ny108.out] at ho8)); have n0_ := aa (Kd.R_below (zcaken HO104.out) hb); have n1_ := aa (Kd.R_lower ho8 (below_size zbpdkp)); have n2_ := aa (IsS80.below zjfifh hb); have n3_ := aa (below_step zbpdkp hb); clear HO104; clear HI107; clear HB; have HO104 := n0_; have HO110 := n1_; have HI107 := n2_; have HB := n3_; clear n0_ n1_ n2_ n3_; clear hb ho8; obtain ⟨Ao9, co9, eo9⟩ := Kd.R_slice HO110.out; subst eo9) | (refine gc_ Tryd.func26 (some 19) #[.pointer (some ⟨g107, 0, none⟩), .slice Ao9 y108.length co9] ?_; (with_reducible refine (spec_l1Pick.calls g107 t105 t106 _ _ y108 t111 t112 w _ ?side1 ?side2 ?side3 ?side4 ?side5 A4.out).mono ?_); (case side1 => exact zjfifh); (case side2 => exact zbpdkp); (case side3 => repeat (first | exact (Kd.R_reads' HO110.out).2.2 | (with_reducible refine Kd.C_alloc ?_ _) | (with_reducible refine Kd.C_drewN ?_ _) | (with_reducible refine Kd.C_drew ?_))); (case side4 => exact (Kd.R_reads' HO110.out).2.1); (case side5 => exact far_slice (IsS80.own_ne HI107.out HO110.out (by decide))); rintro e w10 ⟨rfl, hi, hb, hk⟩; refine ⟨_, rfl, ?_⟩; replace HO104 := aa (Kd.R_mono (Kd.R_keep (IsS80.apart (zjfifh : IsS80 w _ g107 t105 t106) (zcaken HO104.out) (by decide)) hk (fun _ h => h.2)) (fun _ h => h.1)); replace HO110 := aa (Kd.R_mono (Kd.R_keep (IsS80.apart (zjfifh : IsS80 w _ g107 t105 t106) (zcaken HO110.out) (by decide)) hk (fun _ h => h.2)) (fun _ h => h.1)); replace HB := aa (hb); replace HI107 := aa (hi); (try clear hb hb2 hk hi)))
 go_ret3
 exact ⟨_, zlhpib, zcaken HO104.out, zbpdkp⟩
def spec_DrawSetZ.f (k : Nat) (l0 : List Int) : Option ((List (S32)) × ByteArray × Int × Int) := (spec_DrawDeleteZ.f k l0).bind fun bt101 => ((spec_l1Later.f l0 5).bind fun bt106 => ((spec_l1Next.f bt106.1 bt106.2 99).bind fun bt109 => ((spec_l1Pick.f bt106.1 bt109.2 (([bt109.1, 9999, 10000] : List Int))).bind fun bt114 => (some (bt101.1, bt101.2.1, bt114.1, bt101.2.2)))))
theorem spec_DrawSetZ.mono : ∀ a0 k, LeO (spec_DrawSetZ.f k a0) (spec_DrawSetZ.f (k + 1) a0) := by
 intro a0 k
 unfold spec_DrawSetZ.f
 with_reducible repeat' first | exact spec_DrawDeleteZ.mono _ _ | exact LeO.refl _ | exact LeO.none _ | refine LeO.ite ?_ ?_ | refine LeO.bind ?_ (fun _ => ?_)
theorem spec_DrawSetZ.calls (k : Nat) (A0 : Option Addr) (c0 : Nat) (l0 : List Int) (r1 : List (S32)) (r2 : ByteArray) (r3 : Int) (r4 : Int) (w : World) (hr0 : Kd.C (Kd.int .u8) w A0 l0.length l0) (hc0 : l0.length ≤ c0) (h : spec_DrawSetZ.f k l0 = some (r1, r2, r3, r4)) :
  Calls Tryd.prog 8 #[.slice A0 l0.length c0] w fun e w' => ∃ v0_ : Value, e = .returned (.tuple #[v0_, .string r2, .int .i64 r3, .int .i64 r4]) ∧ Kd.R k32 32 w' w.heap.size (fun _ => True) v0_ r1 ∧ Below w.heap.size w w' := by
 have HR0 := aa hr0
 have HC0 := aa hc0
 clear hr0 hc0
 have HB := aa (Below.refl w.heap.size w)
 have H : ((spec_DrawDeleteZ.f k l0).bind fun bt101 => ((spec_l1Later.f l0 5).bind fun bt106 => ((spec_l1Next.f bt106.1 bt106.2 99).bind fun bt109 => ((spec_l1Pick.f bt106.1 bt109.2 (([bt109.1, 9999, 10000] : List Int))).bind fun bt114 => (some (bt101.1, bt101.2.1, bt114.1, bt101.2.2)))))) = some (r1, r2, r3, r4) := h
 clear h
 revert H
 refine ob3_ fun t101 t102 t103 A2 H => ?_
 (try dsimp only at H)
 revert H
 refine ob2_ fun t106 t107 A3 H => ?_
 (try dsimp only at H)
 revert H
 refine ob2_ fun t109 t110 A4 H => ?_
 (try dsimp only at H)
 obtain ⟨y111, hy111⟩ : ∃ y_ : List Int, y_ = (([t109, 9999, 10000] : List Int)) := ⟨_, rfl⟩
 replace H : ((spec_l1Pick.f t106 t110 y111).bind fun bt114 => (some (t101, t102, bt114.1, t103))) = some (r1, r2, r3, r4) := by cases hy111; exact H
 have Ny111 := aa hy111
 clear hy111
 revert H
 refine ob2_ fun t114 t115 A5 H => ?_
 (try dsimp only at H)
 simp only [Option.some.injEq, Prod.mk.injEq] at H
 obtain ⟨rfl, rfl, rfl, rfl⟩ := H
 go_enter Tryd.func8, Tryd.ntmps8
 go_wp2_with (first | (refine gc_ Tryd.func13 (some 12) #[.slice A0 l0.length c0] ?_; (with_reducible refine (spec_DrawDeleteZ.calls k _ _ l0 t101 t102 t103 _ zebgon HC0.out A2.out).mono ?_); rintro e w6 ⟨v104, rfl, ho0, hb⟩; refine ⟨_, rfl, ?_⟩; have HO105 := aa (Kd.R_lower ho0 (below_size zjjbob)); replace HB := aa (below_step zjjbob hb); (try clear hb hb2 hk hi ho0)) | (refine gc_ Tryd.func25 (some 17) #[.slice A0 l0.length c0, .int .i64 5] ?_; (with_reducible refine (spec_l1Later.calls _ _ l0 5 t106 t107 w _ zjjbob HR0.out HC0.out A3.out).mono ?_); rintro e w7 ⟨g108, rfl, hi, hb, hb2⟩; refine ⟨_, rfl, ?_⟩; replace HO105 := aa (Kd.R_below (zcaken HO105.out) hb2); replace HB := aa (hb); have HI108 := aa (hi); (try clear hb hb2 hk hi)) | (refine gc_ Tryd.func27 (some 22) #[.pointer (some ⟨g108, 0, none⟩), .int .i64 99] ?_; (with_reducible refine (spec_l1Next.calls g108 t106 t107 99 t109 t110 w _ zkkjnj zhdkdi A4.out).mono ?_); rintro e w8 ⟨rfl, hi, hb, hk⟩; refine ⟨_, rfl, ?_⟩; replace HO105 := aa (Kd.R_mono (Kd.R_keep (IsS80.apart (zkkjnj : IsS80 w _ g108 t106 t107) (zcaken HO105.out) (by decide)) hk (fun _ h => h.2)) (fun _ h => h.1)); replace HB := aa (hb); replace HI108 := aa (hi); (try clear hb hb2 hk hi)) | ((with_reducible refine gate_dst (N := 23) rfl ?_); refine Kd.R_lit (Kd.int .i64) _ 2 ?hg (N := 23) ?hd (xs := ([t109, 9999, 10000] : List Int)) (inner := [.int .i64 t109, .int .i64 9999, .int .i64 10000]) (ok := fun _ => True) (okp := fun _ => True) ?hr ?hp (fun _ hk => hk) trivial (Below.refl _ _) (Nat.le_refl _) (by simp) ?_; (case hd => rfl); (case hg => rfl); (case hr => exact zhlgcp); (case hp => exact (Reps.one (show Kd.M (Kd.int .i64) _ _ _ t109 [.int .i64 t109] from rfl) (Reps.one (show Kd.M (Kd.int .i64) _ _ _ 9999 [.int .i64 9999] from rfl) (Reps.one (show Kd.M (Kd.int .i64) _ _ _ 10000 [.int .i64 10000] from rfl) (Reps.none _ _))))); intro v112 w9 ho10 hb hg_ hnew_; clear hg_ hnew_; (first | rw [← Ny111.out] at ho10 | (simp only [Int.reduceToNat] at ho10; rw [← Ny111.out] at ho10)); have n0_ := aa (Kd.R_below (zcaken HO105.out) hb); have n1_ := aa (Kd.R_lower ho10 (below_size zhdkdi)); have n2_ := aa (IsS80.below zkkjnj hb); have n3_ := aa (below_step zhdkdi hb); clear HO105; clear HI108; clear HB; have HO105 := n0_; have HO113 := n1_; have HI108 := n2_; have HB := n3_; clear n0_ n1_ n2_ n3_; clear hb ho10; obtain ⟨Ao11, co11, eo11⟩ := Kd.R_slice HO113.out; subst eo11) | (refine gc_ Tryd.func26 (some 24) #[.pointer (some ⟨g108, 0, none⟩), .slice Ao11 y111.length co11] ?_; (with_reducible refine (spec_l1Pick.calls g108 t106 t110 _ _ y111 t114 t115 w _ ?side1 ?side2 ?side3 ?side4 ?side5 A5.out).mono ?_); (case side1 => exact zkkjnj); (case side2 => exact zhdkdi); (case side3 => repeat (first | exact (Kd.R_reads' HO113.out).2.2 | (with_reducible refine Kd.C_alloc ?_ _) | (with_reducible refine Kd.C_drewN ?_ _) | (with_reducible refine Kd.C_drew ?_))); (case side4 => exact (Kd.R_reads' HO113.out).2.1); (case side5 => exact far_slice (IsS80.own_ne HI108.out HO113.out (by decide))); rintro e w12 ⟨rfl, hi, hb, hk⟩; refine ⟨_, rfl, ?_⟩; replace HO105 := aa (Kd.R_mono (Kd.R_keep (IsS80.apart (zkkjnj : IsS80 w _ g108 t106 t110) (zcaken HO105.out) (by decide)) hk (fun _ h => h.2)) (fun _ h => h.1)); replace HO113 := aa (Kd.R_mono (Kd.R_keep (IsS80.apart (zkkjnj : IsS80 w _ g108 t106 t110) (zcaken HO113.out) (by decide)) hk (fun _ h => h.2)) (fun _ h => h.1)); replace HB := aa (hb); replace HI108 := aa (hi); (try clear hb hb2 hk hi)))
 refine bodyPost_ret (results_list (rs := [.tmp 2, .tmp 3, .tmp 4, .tmp 5]) rfl (by simp) (.tmp (.tmp (.tmp (.tmp .nil))))) rfl ?_
 exact ⟨_, zlhpib, zcaken HO105.out, zhdkdi⟩
def impl_isVersion.f (a0 : Int) (a1_0 : ByteArray) (a1_1 : Int) (a1_2 : Int) (a1_3 : Int) (a1_4 : Int) : Option (Bool) := if a0 = (-1) then (some true) else (some (a0 == a1_2))
theorem impl_isVersion.calls (a0 : Int) (a1_0 : ByteArray) (a1_1 : Int) (a1_2 : Int) (a1_3 : Int) (a1_4 : Int) (r : Bool) (w : World) (h : impl_isVersion.f a0 a1_0 a1_1 a1_2 a1_3 a1_4 = some r) :
  Calls Tryd.prog 31 #[.int .i64 a0, .agg #[.string a1_0, .int .i64 a1_1, .int .i64 a1_2, .int .i64 a1_3, .int .i64 a1_4]] w fun e w' => e = .returned (.bool r) ∧ Below w.heap.size w w' := by
 have hu32 := Tryd.underlying32
 have HB := aa (Below.refl w.heap.size w)
 have H : (if a0 = (-1) then (some true) else (some (a0 == a1_2))) = some r := h
 clear h
 revert H
 refine itE_ (fun c3b0 c3b1 H => ?_) fun c3b0 c3b1 H => ?_
 ·
  obtain rfl := Option.some.inj H
  go_enter Tryd.func31, Tryd.ntmps31
  go_wp2_with (first | (refine be_ 3 #[.string a1_0, .int .i64 a1_1, .int .i64 a1_2, .int .i64 a1_3, .int .i64 a1_4] 32 ?_; intro gb101 hg w4 hbox hb; have n0_ := aa (below_step zjjbob hb); have n1_ := aa (hbox); have n2_ := aa ((zkpfjp : w.heap.size ≤ gb101)); have n3_ := aa ((zkpfjp : w.heap.size ≤ gb101)); clear HB; have HB := n0_; have BK101 := n1_; have GW101 := n2_; have GE101 := n3_; clear n0_ n1_ n2_ n3_; clear hb hbox hg))
  go_ret
  exact ⟨zlhpib, zkmbdh⟩
 obtain rfl := Option.some.inj H
 go_enter Tryd.func31, Tryd.ntmps31
 go_wp2_with (first | (refine be_ 3 #[.string a1_0, .int .i64 a1_1, .int .i64 a1_2, .int .i64 a1_3, .int .i64 a1_4] 32 ?_; intro gb101 hg w5 hbox hb; have n0_ := aa (below_step zjjbob hb); have n1_ := aa (hbox); have n2_ := aa ((zkpfjp : w.heap.size ≤ gb101)); have n3_ := aa ((zkpfjp : w.heap.size ≤ gb101)); clear HB; have HB := n0_; have BK101 := n1_; have GW101 := n2_; have GE101 := n3_; clear n0_ n1_ n2_ n3_; clear hb hbox hg; obtain ⟨hcz6_0, hcz6_1, hcz6_2, hcz6_3, hcz6_4, hfz6_0, hfz6_1, hfz6_2, hfz6_3, hfz6_4⟩ := blk5_ BK101.out))
 go_ret
 exact ⟨zlhpib, zkmbdh⟩
def slices_Clone_impl_Znode_impl_Znode.f (l0 : List (S32)) : Option ((List (S32))) := (some (([] : List (S32)) : List (S32))).bind fun y101 => (if y101.length + l0.length < 2932031007402 then (some (y101 ++ l0)) else (none))
theorem slices_Clone_impl_Znode_impl_Znode.calls_some (ad0 : Addr) (c0 : Nat) (l0 : List (S32)) (r : List (S32)) (w : World) (hr0 : Kd.C k32 w (some ad0) l0.length l0) (hc0 : l0.length ≤ c0) (h : slices_Clone_impl_Znode_impl_Znode.f l0 = some r) :
  Calls Tryd.prog 32 #[.slice (some ad0) l0.length c0] w fun e w' => ∃ v0_ : Value, e = .returned (v0_) ∧ Kd.R k32 32 w' w.heap.size (fun _ => True) v0_ r ∧ Below w.heap.size w w' := by
 have HR0 := aa hr0
 have HC0 := aa hc0
 clear hr0 hc0
 have HB := aa (Below.refl w.heap.size w)
 have H : ((some (([] : List (S32)) : List (S32))).bind fun y101 => (if y101.length + l0.length < 2932031007402 then (some (y101 ++ l0)) else (none))) = some r := h
 clear h
 revert H
 refine obl_ fun y101 Ny101 H => ?_
 revert H
 refine itG_ fun c2 H => ?_
 have LMc2 := aa c2
 clear c2
 obtain ⟨y104, hy104⟩ : ∃ y_ : List (S32), y_ = (y101 ++ l0) := ⟨_, rfl⟩
 replace H : (some y104) = some r := by cases hy104; exact H
 have Ny104 := aa hy104
 clear hy104
 obtain rfl := Option.some.inj H
 have hnil_ : ∀ W : World, (binOp .eql 24 (.slice (some ad0) l0.length c0) (.slice none 0 0)).run Tryd.prog W = Result.ok (.bool false) W := fun W => Go.run_eql_slice_nil W 24 32 (some ad0) _ _ Tryd.underlying24
 go_enter Tryd.func32, Tryd.ntmps32
 go_wp2_with (first | ((with_reducible refine gate_dst (N := 5) rfl ?_); refine Kd.R_lit k32 _ 32 ?hg (N := 5) ?hd (xs := ([] : List (S32))) (inner := []) (ok := fun _ => True) (okp := fun _ => True) ?hr ?hp (fun _ hk => hk) trivial (Below.refl _ _) (Nat.le_refl _) (by simp) ?_; (case hd => rfl); (case hg => rfl); (case hr => exact zhlgcp); (case hp => exact (Reps.none _ _)); intro v102 w3 ho4 hb hg_ hnew_; clear hg_ hnew_; (first | rw [← Ny101.out] at ho4 | (simp only [Int.reduceToNat] at ho4; rw [← Ny101.out] at ho4)); have HO103 := aa (Kd.R_lower ho4 (below_size zjjbob)); replace HB := aa (below_step zjjbob hb); clear hb ho4) | ((with_reducible refine gate_builtin (b := .append) (xs := #[.tmp 5, .tmp 6]) rfl ?_); at_builtin; refine Kd.R_append_rows k32 (w0 := w) w.heap.size rfl (.tmp 5) (.tmp 6) 24 32 (.agg #[(.string ⟨#[]⟩), (.int .i64 0), (.int .i64 0), (.int .i64 0), (.int .i64 0)]) 48 rfl Tryd.underlying24 info32 rfl (by decide) (by omega) v102 y101 l0 _ _ _ (fun _ => True) (fun _ => False) rfl rfl ?aO ?aR (fun _ _ h => h) (fun _ h => h.elim) ?aF ?aB ?aS ?aL ?_; (case aR => exact zfmbgg); (case aB => exact zjjbob); (case aF => exact (fun _ _ => trivial)); (case aO => exact (zcaken HO103.out)); (case aS => exact (below_size zjjbob)); (case aL => have := LMc2.out; omega); intro v105 w5 ho hb hg hat; rw [← Ny104.out] at ho; replace HB := aa (hb); have HO106 := aa (ho); clear HO103; clear ho hb hg hat))
 go_ret
 exact ⟨_, zlhpib, zcaken HO106.out, zjjbob⟩
theorem slices_Clone_impl_Znode_impl_Znode.calls_none (c0 : Nat) (w : World) :
  Calls Tryd.prog 32 #[.slice none 0 c0] w fun e w' => e = .returned (.slice none 0 0) ∧ Drawn0 w w' := by
 have hnil_ : ∀ W : World, (binOp .eql 24 (.slice none 0 c0) (.slice none 0 0)).run Tryd.prog W = Result.ok (.bool true) W := fun W => Go.run_eql_slice_nil W 24 32 none _ _ Tryd.underlying24
 go_enter Tryd.func32, Tryd.ntmps32
 go_wp2
 go_ret
 exact ⟨rfl, ziajdh⟩
theorem slices_Clone_impl_Znode_impl_Znode.calls (A0 : Option Addr) (c0 : Nat) (l0 : List (S32)) (r : List (S32)) (w : World) (hr0 : Kd.C k32 w A0 l0.length l0) (hc0 : l0.length ≤ c0) (h : slices_Clone_impl_Znode_impl_Znode.f l0 = some r) :
  Calls Tryd.prog 32 #[.slice A0 l0.length c0] w fun e w' => ∃ v0_ : Value, e = .returned (v0_) ∧ Kd.R k32 32 w' w.heap.size (fun _ => True) v0_ r ∧ Below w.heap.size w w' := by
 cases A0 with
 | some ad0 => exact slices_Clone_impl_Znode_impl_Znode.calls_some ad0 c0 l0 r w hr0 hc0 h
 | none =>
  have hl : l0 = [] := by
   cases l0 with
   | nil => rfl
   | cons x l =>
    obtain ⟨ad, hA, _⟩ := hr0.2.2 (by simp)
    cases hA
  subst hl
  have hr : r = [] := by
   unfold slices_Clone_impl_Znode_impl_Znode.f at h
   simpa using h.symm
  subst hr
  refine (slices_Clone_impl_Znode_impl_Znode.calls_none c0 w).mono ?_
  rintro e w' ⟨rfl, hd⟩
  exact ⟨_, rfl, Kd.R_nil _ _ _ _ _, hd.below⟩
def impl_SetZ.f (k : Nat) (l0 : List (S32)) (a1 : ByteArray) (a2 : Int) (a3 : Int) : Option (Int × ByteArray × (List (S32))) := (impl_zCode.f k l0 a1).bind fun t102 => (if t102 = 0 then ((impl_find.f k l0 a1).bind fun bt103 => ((impl_isData.f a2).bind fun t105 => (if t105 = true then (if bt103.2 = true then (if 0 ≤ bt103.1 then (if bt103.1 < (l0.length : Int) then ((impl_isVersion.f a3 ((rd_T32 l0 bt103.1).f0) ((rd_T32 l0 bt103.1).f1) ((rd_T32 l0 bt103.1).f2) ((rd_T32 l0 bt103.1).f3) ((rd_T32 l0 bt103.1).f4)).bind fun t107 => (if t107 = true then (if ((rd_T32 l0 bt103.1).f2) = 999 then (some (2, (⟨#[]⟩ : ByteArray), ([] : List (S32)))) else ((slices_Clone_impl_Znode_impl_Znode.f l0).bind fun t109 => (if bt103.1 < (t109.length : Int) then ((some (t109.set (bt103.1 : Int).toNat (⟨(rd_T32 t109 bt103.1).f0, a2, (rd_T32 t109 bt103.1).f2, (rd_T32 t109 bt103.1).f3, (rd_T32 t109 bt103.1).f4⟩ : S32) : List (S32))).bind fun y112 => (some (0, (⟨#[]⟩ : ByteArray), (y112.set (bt103.1 : Int).toNat (⟨(rd_T32 y112 bt103.1).f0, (rd_T32 y112 bt103.1).f1, wrap64 (((rd_T32 y112 bt103.1).f2) + 1), (rd_T32 y112 bt103.1).f3, (rd_T32 y112 bt103.1).f4⟩ : S32))))) else (none)))) else (some (7, (⟨#[]⟩ : ByteArray), ([] : List (S32)))))) else (none)) else (none)) else (some (4, (⟨#[]⟩ : ByteArray), ([] : List (S32))))) else (some (3, (⟨#[]⟩ : ByteArray), ([] : List (S32))))))) else (some (t102, (⟨#[]⟩ : ByteArray), ([] : List (S32)))))
theorem impl_SetZ.mono : ∀ a0 a1 a2 a3 k, LeO (impl_SetZ.f k a0 a1 a2 a3) (impl_SetZ.f (k + 1) a0 a1 a2 a3) := by
 intro a0 a1 a2 a3 k
 unfold impl_SetZ.f
 with_reducible repeat' first | exact impl_find.mono _ _ _ | exact impl_zCode.mono _ _ _ | exact LeO.refl _ | exact LeO.none _ | refine LeO.ite ?_ ?_ | refine LeO.bind ?_ (fun _ => ?_)
theorem impl_SetZ.calls (k : Nat) (A0 : Option Addr) (c0 : Nat) (l0 : List (S32)) (a1 : ByteArray) (a2 : Int) (a3 : Int) (r1 : Int) (r2 : ByteArray) (r3 : List (S32)) (w : World) (hr0 : Kd.C k32 w A0 l0.length l0) (hc0 : l0.length ≤ c0) (h : impl_SetZ.f k l0 a1 a2 a3 = some (r1, r2, r3)) :
  Calls Tryd.prog 9 #[.slice A0 l0.length c0, .string a1, .int .i64 a2, .int .i64 a3] w fun e w' => ∃ v2_ : Value, e = .returned (.agg #[.int .i64 r1, .string r2, v2_]) ∧ Kd.R k32 32 w' w.heap.size (fun _ => True) v2_ r3 ∧ Below w.heap.size w w' := by
 have hu28 := Tryd.underlying28
 have hu32 := Tryd.underlying32
 have HR0 := aa hr0
 have HC0 := aa hc0
 clear hr0 hc0
 have HB := aa (Below.refl w.heap.size w)
 have H : ((impl_zCode.f k l0 a1).bind fun t102 => (if t102 = 0 then ((impl_find.f k l0 a1).bind fun bt103 => ((impl_isData.f a2).bind fun t105 => (if t105 = true then (if bt103.2 = true then (if 0 ≤ bt103.1 then (if bt103.1 < (l0.length : Int) then ((impl_isVersion.f a3 ((rd_T32 l0 bt103.1).f0) ((rd_T32 l0 bt103.1).f1) ((rd_T32 l0 bt103.1).f2) ((rd_T32 l0 bt103.1).f3) ((rd_T32 l0 bt103.1).f4)).bind fun t107 => (if t107 = true then (if ((rd_T32 l0 bt103.1).f2) = 999 then (some (2, (⟨#[]⟩ : ByteArray), ([] : List (S32)))) else ((slices_Clone_impl_Znode_impl_Znode.f l0).bind fun t109 => (if bt103.1 < (t109.length : Int) then ((some (t109.set (bt103.1 : Int).toNat (⟨(rd_T32 t109 bt103.1).f0, a2, (rd_T32 t109 bt103.1).f2, (rd_T32 t109 bt103.1).f3, (rd_T32 t109 bt103.1).f4⟩ : S32) : List (S32))).bind fun y112 => (some (0, (⟨#[]⟩ : ByteArray), (y112.set (bt103.1 : Int).toNat (⟨(rd_T32 y112 bt103.1).f0, (rd_T32 y112 bt103.1).f1, wrap64 (((rd_T32 y112 bt103.1).f2) + 1), (rd_T32 y112 bt103.1).f3, (rd_T32 y112 bt103.1).f4⟩ : S32))))) else (none)))) else (some (7, (⟨#[]⟩ : ByteArray), ([] : List (S32)))))) else (none)) else (none)) else (some (4, (⟨#[]⟩ : ByteArray), ([] : List (S32))))) else (some (3, (⟨#[]⟩ : ByteArray), ([] : List (S32))))))) else (some (t102, (⟨#[]⟩ : ByteArray), ([] : List (S32)))))) = some (r1, r2, r3) := h
 clear h
 revert H
 refine obs_ fun t102 A5 H => ?_
 revert H
 refine itE_ (fun c6b0 c6b1 H => ?_) fun c6b0 c6b1 H => ?_
 ·
  revert H
  refine ob2_ fun t103 t104 A7 H => ?_
  (try dsimp only at H)
  revert H
  refine obs_ fun t105 A8 H => ?_
  by_cases c9 : t105 = true
  ·
   subst c9
   rw [if_pos rfl] at H
   by_cases c10 : t104 = true
   ·
    subst c10
    rw [if_pos rfl] at H
    revert H
    refine itH_ fun c11b0 H => ?_
    revert H
    refine itH_ fun c12b0 H => ?_
    revert H
    refine obs_ fun t107 A13 H => ?_
    by_cases c14 : t107 = true
    ·
     subst c14
     rw [if_pos rfl] at H
     revert H
     refine itE_ (fun c15b0 c15b1 H => ?_) fun c15b0 c15b1 H => ?_
     ·
      simp only [Option.some.injEq, Prod.mk.injEq] at H
      obtain ⟨rfl, rfl, rfl⟩ := H
      go_enter Tryd.func9, Tryd.ntmps9
      go_wp2_with (first | (refine be_ 8 #[.int .i64 0, .string (⟨#[]⟩ : ByteArray), .slice none 0 0] 28 ?_; intro gb101 hg w16 hbox hb; have n0_ := aa (below_step zjjbob hb); have n1_ := aa (hbox); have n2_ := aa ((zkpfjp : w.heap.size ≤ gb101)); have n3_ := aa ((zkpfjp : w.heap.size ≤ gb101)); clear HB; have HB := n0_; have BK101 := n1_; have GW101 := n2_; have GE101 := n3_; clear n0_ n1_ n2_ n3_; clear hb hbox hg) | (refine gc_ Tryd.func28 (some 15) #[.slice A0 l0.length c0, .string a1] ?_; (with_reducible refine (impl_zCode.calls k _ _ l0 a1 t102 _ zfmbgg HC0.out A5.out).mono ?_); rintro e w17 ⟨rfl, hb⟩; refine ⟨_, rfl, ?_⟩; replace BK101 := aa (bb_ BK101.out hb); replace HB := aa (below_step zkmbdh hb); (try clear hb hk hi)) | (refine gc_ Tryd.func29 (some 23) #[.slice A0 l0.length c0, .string a1] ?_; (with_reducible refine (impl_find.calls k _ _ l0 a1 t103 true _ zfmbgg HC0.out A7.out).mono ?_); rintro e w18 ⟨rfl, hb⟩; refine ⟨_, rfl, ?_⟩; replace BK101 := aa (bb_ BK101.out hb); replace HB := aa (below_step zkmbdh hb); (try clear hb hk hi)) | (refine gc_ Tryd.func30 (some 28) #[.int .i64 a2] ?_; (with_reducible refine (impl_isData.calls a2 true _ A8.out).mono ?_); rintro e w' ⟨rfl, ⟨nd, rfl⟩⟩; refine ⟨_, rfl, ?_⟩; (try (rw [drewN_self w18]; generalize hq_ : World.drewN w18 _ = w18; have n0_ : Aside0 (w18.heap[gb101]? = some (.cells #[.int .i64 0, .string (⟨#[]⟩ : ByteArray), .slice none 0 0] 28 (0, 0))) := ⟨by rw [← hq_]; exact (zkjhpm BK101.out)⟩; have n1_ : Aside0 (Below w.heap.size w w18) := ⟨by rw [← hq_]; exact zkmbdh⟩; clear BK101 HB hq_; have BK101 := n0_; have HB := n1_; clear n0_ n1_)); have p106 : 0 ≤ (t103 : Int) := of_decide_eq_true zgglam; have q106 : t103 < (l0.length : Int) := of_decide_eq_true zgglam; obtain ⟨ad106, e106, hx106_0, hx106_1, hx106_2, hx106_3, hx106_4⟩ := at_T32 HR0.out t103 p106 q106; cases e106; replace hx106_0 := pb HB.out hx106_0; replace hx106_1 := pb HB.out hx106_1; replace hx106_2 := pb HB.out hx106_2; replace hx106_3 := pb HB.out hx106_3; replace hx106_4 := pb HB.out hx106_4; replace p106 := eq_true p106; replace q106 := eq_true q106) | (refine gc_ Tryd.func31 (some 41) #[.int .i64 a3, .agg #[.string ((rd_T32 l0 t103).f0), .int .i64 ((rd_T32 l0 t103).f1), .int .i64 ((rd_T32 l0 t103).f2), .int .i64 ((rd_T32 l0 t103).f3), .int .i64 ((rd_T32 l0 t103).f4)]] ?_; (with_reducible refine (impl_isVersion.calls a3 ((rd_T32 l0 t103).f0) ((rd_T32 l0 t103).f1) ((rd_T32 l0 t103).f2) ((rd_T32 l0 t103).f3) ((rd_T32 l0 t103).f4) true _ A13.out).mono ?_); rintro e w19 ⟨rfl, hb⟩; refine ⟨_, rfl, ?_⟩; replace BK101 := aa (bb_ BK101.out hb); replace HB := aa (below_step zkmbdh hb); (try clear hb hk hi); have p108 : 0 ≤ (t103 : Int) := of_decide_eq_true zgglam; have q108 : t103 < (l0.length : Int) := of_decide_eq_true zgglam; obtain ⟨ad108, e108, hx108_0, hx108_1, hx108_2, hx108_3, hx108_4⟩ := at_T32 HR0.out t103 p108 q108; obtain rfl : ad106 = ad108 := (by injection e108); replace hx108_0 := pb HB.out hx108_0; replace hx108_1 := pb HB.out hx108_1; replace hx108_2 := pb HB.out hx108_2; replace hx108_3 := pb HB.out hx108_3; replace hx108_4 := pb HB.out hx108_4; replace p108 := eq_true p108; replace q108 := eq_true q108; obtain ⟨hcz20_0, hcz20_1, hcz20_2, hfz20_0, hfz20_1, hfz20_2⟩ := blk3_ BK101.out))
      refine bodyPost_ret (results_cell_row rfl _ _ gb101 28 #[.int .i64 2, .string (⟨#[]⟩ : ByteArray), .slice none 0 0] (0, 0) _ rfl (by (with_reducible repeat (first | refine blk_drewN ?_ _ | refine blk_drew ?_ | refine blk_alloc ?_ _)); refine blk_put (cs := #[.int .i64 2, .string (⟨#[]⟩ : ByteArray), .slice none 0 0]) ?_ 2 _ rfl; (with_reducible repeat (first | refine blk_drewN ?_ _ | refine blk_drew ?_ | refine blk_alloc ?_ _)); refine blk_put (cs := #[.int .i64 2, .string (⟨#[]⟩ : ByteArray), .slice none 0 0]) ?_ 1 _ rfl; (with_reducible repeat (first | refine blk_drewN ?_ _ | refine blk_drew ?_ | refine blk_alloc ?_ _)); refine blk_put (cs := #[.int .i64 0, .string (⟨#[]⟩ : ByteArray), .slice none 0 0]) ?_ 0 _ rfl; (with_reducible repeat (first | refine blk_drewN ?_ _ | refine blk_drew ?_ | refine blk_alloc ?_ _)); exact BK101.out) Tryd.underlying28 rfl (by kernel_rfl)) rfl ?_
      exact ⟨_, zlhpib, zhijhk, zkmbdh⟩
     revert H
     refine obs_ fun t109 A21 H => ?_
     revert H
     refine itH_ fun c22b0 H => ?_
     revert H
     refine obl_ fun y112 Ny112 H => ?_
     obtain ⟨y114, hy114⟩ : ∃ y_ : List (S32), y_ = (y112.set (t103 : Int).toNat (⟨(rd_T32 y112 t103).f0, (rd_T32 y112 t103).f1, wrap64 (((rd_T32 y112 t103).f2) + 1), (rd_T32 y112 t103).f3, (rd_T32 y112 t103).f4⟩ : S32)) := ⟨_, rfl⟩
     replace H : (some (0, (⟨#[]⟩ : ByteArray), y114)) = some (r1, r2, r3) := by cases hy114; exact H
     have Ny114 := aa hy114
     clear hy114
     simp only [Option.some.injEq, Prod.mk.injEq] at H
     obtain ⟨rfl, rfl, rfl⟩ := H
     go_enter Tryd.func9, Tryd.ntmps9
     go_wp2_with (first | (refine be_ 8 #[.int .i64 0, .string (⟨#[]⟩ : ByteArray), .slice none 0 0] 28 ?_; intro gb101 hg w25 hbox hb; have n0_ := aa (below_step zjjbob hb); have n1_ := aa (hbox); have n2_ := aa ((zkpfjp : w.heap.size ≤ gb101)); have n3_ := aa ((zkpfjp : w.heap.size ≤ gb101)); clear HB; have HB := n0_; have BK101 := n1_; have GW101 := n2_; have GE101 := n3_; clear n0_ n1_ n2_ n3_; clear hb hbox hg) | (refine gc_ Tryd.func28 (some 15) #[.slice A0 l0.length c0, .string a1] ?_; (with_reducible refine (impl_zCode.calls k _ _ l0 a1 t102 _ zfmbgg HC0.out A5.out).mono ?_); rintro e w26 ⟨rfl, hb⟩; refine ⟨_, rfl, ?_⟩; replace BK101 := aa (bb_ BK101.out hb); replace HB := aa (below_step zkmbdh hb); (try clear hb hk hi)) | (refine gc_ Tryd.func29 (some 23) #[.slice A0 l0.length c0, .string a1] ?_; (with_reducible refine (impl_find.calls k _ _ l0 a1 t103 true _ zfmbgg HC0.out A7.out).mono ?_); rintro e w27 ⟨rfl, hb⟩; refine ⟨_, rfl, ?_⟩; replace BK101 := aa (bb_ BK101.out hb); replace HB := aa (below_step zkmbdh hb); (try clear hb hk hi)) | (refine gc_ Tryd.func30 (some 28) #[.int .i64 a2] ?_; (with_reducible refine (impl_isData.calls a2 true _ A8.out).mono ?_); rintro e w' ⟨rfl, ⟨nd, rfl⟩⟩; refine ⟨_, rfl, ?_⟩; (try (rw [drewN_self w27]; generalize hq_ : World.drewN w27 _ = w27; have n0_ : Aside0 (w27.heap[gb101]? = some (.cells #[.int .i64 0, .string (⟨#[]⟩ : ByteArray), .slice none 0 0] 28 (0, 0))) := ⟨by rw [← hq_]; exact (zkjhpm BK101.out)⟩; have n1_ : Aside0 (Below w.heap.size w w27) := ⟨by rw [← hq_]; exact zkmbdh⟩; clear BK101 HB hq_; have BK101 := n0_; have HB := n1_; clear n0_ n1_)); have p106 : 0 ≤ (t103 : Int) := of_decide_eq_true zgglam; have q106 : t103 < (l0.length : Int) := of_decide_eq_true zgglam; obtain ⟨ad106, e106, hx106_0, hx106_1, hx106_2, hx106_3, hx106_4⟩ := at_T32 HR0.out t103 p106 q106; cases e106; replace hx106_0 := pb HB.out hx106_0; replace hx106_1 := pb HB.out hx106_1; replace hx106_2 := pb HB.out hx106_2; replace hx106_3 := pb HB.out hx106_3; replace hx106_4 := pb HB.out hx106_4; replace p106 := eq_true p106; replace q106 := eq_true q106) | (refine gc_ Tryd.func31 (some 41) #[.int .i64 a3, .agg #[.string ((rd_T32 l0 t103).f0), .int .i64 ((rd_T32 l0 t103).f1), .int .i64 ((rd_T32 l0 t103).f2), .int .i64 ((rd_T32 l0 t103).f3), .int .i64 ((rd_T32 l0 t103).f4)]] ?_; (with_reducible refine (impl_isVersion.calls a3 ((rd_T32 l0 t103).f0) ((rd_T32 l0 t103).f1) ((rd_T32 l0 t103).f2) ((rd_T32 l0 t103).f3) ((rd_T32 l0 t103).f4) true _ A13.out).mono ?_); rintro e w28 ⟨rfl, hb⟩; refine ⟨_, rfl, ?_⟩; replace BK101 := aa (bb_ BK101.out hb); replace HB := aa (below_step zkmbdh hb); (try clear hb hk hi); have p108 : 0 ≤ (t103 : Int) := of_decide_eq_true zgglam; have q108 : t103 < (l0.length : Int) := of_decide_eq_true zgglam; obtain ⟨ad108, e108, hx108_0, hx108_1, hx108_2, hx108_3, hx108_4⟩ := at_T32 HR0.out t103 p108 q108; obtain rfl : ad106 = ad108 := (by injection e108); replace hx108_0 := pb HB.out hx108_0; replace hx108_1 := pb HB.out hx108_1; replace hx108_2 := pb HB.out hx108_2; replace hx108_3 := pb HB.out hx108_3; replace hx108_4 := pb HB.out hx108_4; replace p108 := eq_true p108; replace q108 := eq_true q108) | (refine gc_ Tryd.func32 (some 53) #[.slice (some ad106) l0.length c0] ?_; (with_reducible refine (slices_Clone_impl_Znode_impl_Znode.calls _ _ l0 t109 _ zfmbgg HC0.out A21.out).mono ?_); rintro e w29 ⟨v110, rfl, ho0, hb⟩; refine ⟨_, rfl, ?_⟩; have HO111 := aa (Kd.R_lower ho0 (below_size zkmbdh)); replace BK101 := aa (bb_ BK101.out hb); replace HB := aa (below_step zkmbdh hb); (try clear hb hk hi ho0); have p23 : 0 ≤ (t103 : Int) := of_decide_eq_true zgglam; have q23 : (t103 : Int) < ((t109.length : Int) : Int) := of_decide_eq_true zgglam; obtain ⟨go23, co23, eo23, gb23, gl23, cl23, HG23⟩ := Kd.R_form HO111.out (by omega); (first | cases eo23 | (injection eo23 with ea_ en_ ec_; (first | subst ea_ | (injection ea_ with ea_; subst ea_)); subst ec_; clear en_)); have GB23 := aa gb23; have GG23 := aa HG23; clear gb23 gl23 HG23; obtain ⟨ce23, hcl23, hM23, hcc23, hfr23⟩ := Kd.R_elem HO111.out z32 (t103 : Int) p23 q23; obtain rfl := k32_openM hM23; have hx23_0 : w29.cell? ⟨go23, (t103 : Int).toNat * 5, none⟩ = some (.string ((rd_T32 t109 t103).f0)) := hcc23 0 _ rfl; have hx23_1 : w29.cell? ⟨go23, (t103 : Int).toNat * 5 + 1, none⟩ = some (.int .i64 ((rd_T32 t109 t103).f1)) := hcc23 1 _ rfl; have hx23_2 : w29.cell? ⟨go23, (t103 : Int).toNat * 5 + 2, none⟩ = some (.int .i64 ((rd_T32 t109 t103).f2)) := hcc23 2 _ rfl; have hx23_3 : w29.cell? ⟨go23, (t103 : Int).toNat * 5 + 3, none⟩ = some (.int .i64 ((rd_T32 t109 t103).f3)) := hcc23 3 _ rfl; have hx23_4 : w29.cell? ⟨go23, (t103 : Int).toNat * 5 + 4, none⟩ = some (.int .i64 ((rd_T32 t109 t103).f4)) := hcc23 4 _ rfl; have hf23_0 : w29.frozen? ⟨go23, (t103 : Int).toNat * 5, none⟩ = false := hfr23 0; have hf23_1 : w29.frozen? ⟨go23, (t103 : Int).toNat * 5 + 1, none⟩ = false := hfr23 1; have hf23_2 : w29.frozen? ⟨go23, (t103 : Int).toNat * 5 + 2, none⟩ = false := hfr23 2; have hf23_3 : w29.frozen? ⟨go23, (t103 : Int).toNat * 5 + 3, none⟩ = false := hfr23 3; have hf23_4 : w29.frozen? ⟨go23, (t103 : Int).toNat * 5 + 4, none⟩ = false := hfr23 4; clear hcl23 hcc23 hfr23 hM23; replace p23 := eq_true p23; replace q23 := eq_true q23; have HX30 := aa (show Kd.R k32 32 w29 w.heap.size (fun _ => True) (.slice (some ⟨go23, 0, none⟩) t109.length co23) t109 from (zcaken HO111.out)); obtain ⟨ce30, hcl30, hM30, hcc30, hfr30⟩ := Kd.R_elem HX30.out z32 (t103 : Int) (of_decide_eq_true zgglam) (by have h_ : (t103 : Int) < ((t109.length : Int) : Int) := of_decide_eq_true zgglam; first | exact h_ | (have e_ := (Kd.R_reads' HO111.out).1; omega) | simpa using h_); obtain rfl := k32_openM hM30; have HP30 := Kd.R_seg HX30.out (t103 : Int) (of_decide_eq_true zgglam) (by have h_ : (t103 : Int) < ((t109.length : Int) : Int) := of_decide_eq_true zgglam; first | exact h_ | (have e_ := (Kd.R_reads' HO111.out).1; omega) | simpa using h_) (seg := [.int .i64 a2]) (j := 1) hcl30 hcc30 (show 2 ≤ 5 from by decide) (x' := (⟨(rd_T32 t109 t103).f0, a2, (rd_T32 t109 t103).f2, (rd_T32 t109 t103).f3, (rd_T32 t109 t103).f4⟩ : S32)) (k32_mkM _ _ _ (⟨(rd_T32 t109 t103).f0, a2, (rd_T32 t109 t103).f2, (rd_T32 t109 t103).f3, (rd_T32 t109 t103).f4⟩ : S32) ) (fun _ hk => hk); have hx30_1 := hcc30 1 _ rfl; (try simp only [show (k32).sz = 5 from rfl, Nat.mul_one, Nat.add_zero] at hx30_1); have hf30_1 := hfr30 1; (try simp only [show (k32).sz = 5 from rfl, Nat.mul_one, Nat.add_zero] at hf30_1); clear hcl30 hcc30 hfr30 hM30) | ((with_reducible refine gate_store (t := 2) (p := 58) rfl ?_); refine store_event (t := 2) (p := 58) (v := ?vo_w31) (w1 := (w29.setCell ⟨go23, (t103 : Int).toNat * 5 + 1, none⟩ (.int .i64 a2))) ?hg ?ho ?hn ?hr ?_; (case ho => rfl); (case hg => rfl); (case hn => rfl); (case hr => exact zhlgcp); intro w31 hw; have hg : w29.grownBy w31 (some go23) := (by rw [hw]; exact HP30.2); have hp_ : Kd.R k32 32 w31 w.heap.size (fun _ => True) (.slice (some ⟨go23, 0, none⟩) t109.length co23) y112 := (by rw [hw, Ny112.out]; exact HP30.1); clear HP30; have n0_ := aa (blk_grown (g := gb101) (o := .cells #[.int .i64 0, .string (⟨#[]⟩ : ByteArray), .slice none 0 0] 28 (0, 0)) (zkjhpm BK101.out) hg (Kd.R_ne HO111.out BK101.out (by decide))); have n1_ := aa (hp_); have n2_ := aa ((by rw [hw]; exact below_set (HB.out) GB23.out : Below w.heap.size w w31)); clear BK101; clear HO111; clear HB; have BK101 := n0_; have HO111 := n1_; have HB := n2_; clear n0_ n1_ n2_; clear hg hw hp_; have p113 : 0 ≤ (t103 : Int) := of_decide_eq_true zgglam; have q113 : t103 < (y112.length : Int) := (by have h_ : (t103 : Int) < ((t109.length : Int) : Int) := of_decide_eq_true zgglam; first | (have e_ := (Kd.R_reads' HO111.out).1; omega) | simpa only [Ny112.out, List.length_set] using h_); have ql113 : ((t103 : Int) < ((t109.length : Int) : Int)) = True := eq_true (of_decide_eq_true zgglam); obtain ⟨ad113, e113, hx113_0, hx113_1, hx113_2, hx113_3, hx113_4⟩ := at_T32 (Kd.R_reads' HO111.out).2.2 t103 p113 q113; obtain rfl : (⟨go23, 0, none⟩ : Addr) = ad113 := (by injection e113); (first | simp only [add_plain] at hx113_0 | simp only [add_at] at hx113_0 | simp only [Addr.add, Nat.zero_add] at hx113_0 | skip); (first | simp only [add_plain] at hx113_1 | simp only [add_at] at hx113_1 | simp only [Addr.add, Nat.zero_add] at hx113_1 | skip); (first | simp only [add_plain] at hx113_2 | simp only [add_at] at hx113_2 | simp only [Addr.add, Nat.zero_add] at hx113_2 | skip); (first | simp only [add_plain] at hx113_3 | simp only [add_at] at hx113_3 | simp only [Addr.add, Nat.zero_add] at hx113_3 | skip); (first | simp only [add_plain] at hx113_4 | simp only [add_at] at hx113_4 | simp only [Addr.add, Nat.zero_add] at hx113_4 | skip); replace p113 := eq_true p113; replace q113 := eq_true q113; have p24 : 0 ≤ (t103 : Int) := of_decide_eq_true zgglam; have q24 : (t103 : Int) < ((t109.length : Int) : Int) := of_decide_eq_true zgglam; obtain ⟨ce24, hcl24, hM24, hcc24, hfr24⟩ := Kd.R_elem HO111.out z32 (t103 : Int) p24 q24; obtain rfl := k32_openM hM24; have hx24_0 : w31.cell? ⟨go23, (t103 : Int).toNat * 5, none⟩ = some (.string ((rd_T32 y112 t103).f0)) := hcc24 0 _ rfl; have hx24_1 : w31.cell? ⟨go23, (t103 : Int).toNat * 5 + 1, none⟩ = some (.int .i64 ((rd_T32 y112 t103).f1)) := hcc24 1 _ rfl; have hx24_2 : w31.cell? ⟨go23, (t103 : Int).toNat * 5 + 2, none⟩ = some (.int .i64 ((rd_T32 y112 t103).f2)) := hcc24 2 _ rfl; have hx24_3 : w31.cell? ⟨go23, (t103 : Int).toNat * 5 + 3, none⟩ = some (.int .i64 ((rd_T32 y112 t103).f3)) := hcc24 3 _ rfl; have hx24_4 : w31.cell? ⟨go23, (t103 : Int).toNat * 5 + 4, none⟩ = some (.int .i64 ((rd_T32 y112 t103).f4)) := hcc24 4 _ rfl; have hf24_0 : w31.frozen? ⟨go23, (t103 : Int).toNat * 5, none⟩ = false := hfr24 0; have hf24_1 : w31.frozen? ⟨go23, (t103 : Int).toNat * 5 + 1, none⟩ = false := hfr24 1; have hf24_2 : w31.frozen? ⟨go23, (t103 : Int).toNat * 5 + 2, none⟩ = false := hfr24 2; have hf24_3 : w31.frozen? ⟨go23, (t103 : Int).toNat * 5 + 3, none⟩ = false := hfr24 3; have hf24_4 : w31.frozen? ⟨go23, (t103 : Int).toNat * 5 + 4, none⟩ = false := hfr24 4; clear hcl24 hcc24 hfr24 hM24; replace p24 := eq_true p24; replace q24 := eq_true q24; have HX32 := aa (show Kd.R k32 32 w31 w.heap.size (fun _ => True) (.slice (some ⟨go23, 0, none⟩) t109.length co23) y112 from (zcaken HO111.out)); obtain ⟨ce32, hcl32, hM32, hcc32, hfr32⟩ := Kd.R_elem HX32.out z32 (t103 : Int) (of_decide_eq_true zgglam) (by have h_ : (t103 : Int) < ((t109.length : Int) : Int) := of_decide_eq_true zgglam; first | exact h_ | (have e_ := (Kd.R_reads' HO111.out).1; omega) | simpa using h_); obtain rfl := k32_openM hM32; have HP32 := Kd.R_seg HX32.out (t103 : Int) (of_decide_eq_true zgglam) (by have h_ : (t103 : Int) < ((t109.length : Int) : Int) := of_decide_eq_true zgglam; first | exact h_ | (have e_ := (Kd.R_reads' HO111.out).1; omega) | simpa using h_) (seg := [.int .i64 (wrap64 (((rd_T32 y112 t103).f2) + 1))]) (j := 2) hcl32 hcc32 (show 3 ≤ 5 from by decide) (x' := (⟨(rd_T32 y112 t103).f0, (rd_T32 y112 t103).f1, wrap64 (((rd_T32 y112 t103).f2) + 1), (rd_T32 y112 t103).f3, (rd_T32 y112 t103).f4⟩ : S32)) (k32_mkM _ _ _ (⟨(rd_T32 y112 t103).f0, (rd_T32 y112 t103).f1, wrap64 (((rd_T32 y112 t103).f2) + 1), (rd_T32 y112 t103).f3, (rd_T32 y112 t103).f4⟩ : S32) ) (fun _ hk => hk); have hx32_2 := hcc32 2 _ rfl; (try simp only [show (k32).sz = 5 from rfl, Nat.mul_one, Nat.add_zero] at hx32_2); have hf32_2 := hfr32 2; (try simp only [show (k32).sz = 5 from rfl, Nat.mul_one, Nat.add_zero] at hf32_2); clear hcl32 hcc32 hfr32 hM32) | ((with_reducible refine gate_store (t := 2) (p := 66) rfl ?_); refine store_event (t := 2) (p := 66) (v := ?vo_w33) (w1 := (w31.setCell ⟨go23, (t103 : Int).toNat * 5 + 2, none⟩ (.int .i64 (wrap64 (((rd_T32 y112 t103).f2) + 1))))) ?hg ?ho ?hn ?hr ?_; (case ho => rfl); (case hg => rfl); (case hn => rfl); (case hr => exact zhlgcp); intro w33 hw; have hg : w31.grownBy w33 (some go23) := (by rw [hw]; exact HP32.2); have hp_ : Kd.R k32 32 w33 w.heap.size (fun _ => True) (.slice (some ⟨go23, 0, none⟩) t109.length co23) y114 := (by rw [hw, Ny114.out]; exact HP32.1); clear HP32; have n0_ := aa (blk_grown (g := gb101) (o := .cells #[.int .i64 0, .string (⟨#[]⟩ : ByteArray), .slice none 0 0] 28 (0, 0)) (zkjhpm BK101.out) hg (Kd.R_ne HO111.out BK101.out (by decide))); have n1_ := aa (hp_); have n2_ := aa ((by rw [hw]; exact below_set (HB.out) GB23.out : Below w.heap.size w w33)); clear BK101; clear HO111; clear HB; have BK101 := n0_; have HO111 := n1_; have HB := n2_; clear n0_ n1_ n2_; clear hg hw hp_; obtain ⟨hcz34_0, hcz34_1, hcz34_2, hfz34_0, hfz34_1, hfz34_2⟩ := blk3_ BK101.out))
     refine bodyPost_ret (results_cell_row rfl _ _ gb101 28 #[.int .i64 0, .string (⟨#[]⟩ : ByteArray), .slice (some ⟨go23, 0, none⟩) t109.length co23] (0, 0) _ rfl zkhiid Tryd.underlying28 rfl (by kernel_rfl)) rfl ?_
     exact ⟨_, zlhpib, by (with_reducible repeat (first | apply Kd.R_alloc | apply Kd.R_drewN | apply Kd.R_drew)); exact Kd.R_mono (Kd.R_far (p := ⟨gb101, 2, none⟩) (Kd.R_far (p := ⟨gb101, 1, none⟩) (Kd.R_far (p := ⟨gb101, 0, none⟩) (Kd.R_types HO111.out BK101.out (by decide)) (fun _ hk => hk.2) (.int .i64 0)) (fun _ hk => hk.2) (.string (⟨#[]⟩ : ByteArray))) (fun _ hk => hk.2) (.slice (some ⟨go23, 0, none⟩) t109.length co23)) (fun _ hk => trivial), zkmbdh⟩
    replace c14 := Bool.eq_false_iff.mpr c14
    subst c14
    rw [if_neg fT_] at H
    simp only [Option.some.injEq, Prod.mk.injEq] at H
    obtain ⟨rfl, rfl, rfl⟩ := H
    go_enter Tryd.func9, Tryd.ntmps9
    go_wp2_with (first | (refine be_ 8 #[.int .i64 0, .string (⟨#[]⟩ : ByteArray), .slice none 0 0] 28 ?_; intro gb101 hg w35 hbox hb; have n0_ := aa (below_step zjjbob hb); have n1_ := aa (hbox); have n2_ := aa ((zkpfjp : w.heap.size ≤ gb101)); have n3_ := aa ((zkpfjp : w.heap.size ≤ gb101)); clear HB; have HB := n0_; have BK101 := n1_; have GW101 := n2_; have GE101 := n3_; clear n0_ n1_ n2_ n3_; clear hb hbox hg) | (refine gc_ Tryd.func28 (some 15) #[.slice A0 l0.length c0, .string a1] ?_; (with_reducible refine (impl_zCode.calls k _ _ l0 a1 t102 _ zfmbgg HC0.out A5.out).mono ?_); rintro e w36 ⟨rfl, hb⟩; refine ⟨_, rfl, ?_⟩; replace BK101 := aa (bb_ BK101.out hb); replace HB := aa (below_step zkmbdh hb); (try clear hb hk hi)) | (refine gc_ Tryd.func29 (some 23) #[.slice A0 l0.length c0, .string a1] ?_; (with_reducible refine (impl_find.calls k _ _ l0 a1 t103 true _ zfmbgg HC0.out A7.out).mono ?_); rintro e w37 ⟨rfl, hb⟩; refine ⟨_, rfl, ?_⟩; replace BK101 := aa (bb_ BK101.out hb); replace HB := aa (below_step zkmbdh hb); (try clear hb hk hi)) | (refine gc_ Tryd.func30 (some 28) #[.int .i64 a2] ?_; (with_reducible refine (impl_isData.calls a2 true _ A8.out).mono ?_); rintro e w' ⟨rfl, ⟨nd, rfl⟩⟩; refine ⟨_, rfl, ?_⟩; (try (rw [drewN_self w37]; generalize hq_ : World.drewN w37 _ = w37; have n0_ : Aside0 (w37.heap[gb101]? = some (.cells #[.int .i64 0, .string (⟨#[]⟩ : ByteArray), .slice none 0 0] 28 (0, 0))) := ⟨by rw [← hq_]; exact (zkjhpm BK101.out)⟩; have n1_ : Aside0 (Below w.heap.size w w37) := ⟨by rw [← hq_]; exact zkmbdh⟩; clear BK101 HB hq_; have BK101 := n0_; have HB := n1_; clear n0_ n1_)); have p106 : 0 ≤ (t103 : Int) := of_decide_eq_true zgglam; have q106 : t103 < (l0.length : Int) := of_decide_eq_true zgglam; obtain ⟨ad106, e106, hx106_0, hx106_1, hx106_2, hx106_3, hx106_4⟩ := at_T32 HR0.out t103 p106 q106; cases e106; replace hx106_0 := pb HB.out hx106_0; replace hx106_1 := pb HB.out hx106_1; replace hx106_2 := pb HB.out hx106_2; replace hx106_3 := pb HB.out hx106_3; replace hx106_4 := pb HB.out hx106_4; replace p106 := eq_true p106; replace q106 := eq_true q106) | (refine gc_ Tryd.func31 (some 41) #[.int .i64 a3, .agg #[.string ((rd_T32 l0 t103).f0), .int .i64 ((rd_T32 l0 t103).f1), .int .i64 ((rd_T32 l0 t103).f2), .int .i64 ((rd_T32 l0 t103).f3), .int .i64 ((rd_T32 l0 t103).f4)]] ?_; (with_reducible refine (impl_isVersion.calls a3 ((rd_T32 l0 t103).f0) ((rd_T32 l0 t103).f1) ((rd_T32 l0 t103).f2) ((rd_T32 l0 t103).f3) ((rd_T32 l0 t103).f4) false _ A13.out).mono ?_); rintro e w38 ⟨rfl, hb⟩; refine ⟨_, rfl, ?_⟩; replace BK101 := aa (bb_ BK101.out hb); replace HB := aa (below_step zkmbdh hb); (try clear hb hk hi); obtain ⟨hcz39_0, hcz39_1, hcz39_2, hfz39_0, hfz39_1, hfz39_2⟩ := blk3_ BK101.out))
    refine bodyPost_ret (results_cell_row rfl _ _ gb101 28 #[.int .i64 7, .string (⟨#[]⟩ : ByteArray), .slice none 0 0] (0, 0) _ rfl zmhibk Tryd.underlying28 rfl (by kernel_rfl)) rfl ?_
    exact ⟨_, zlhpib, zhijhk, zkmbdh⟩
   replace c10 := Bool.eq_false_iff.mpr c10
   subst c10
   rw [if_neg fT_] at H
   simp only [Option.some.injEq, Prod.mk.injEq] at H
   obtain ⟨rfl, rfl, rfl⟩ := H
   go_enter Tryd.func9, Tryd.ntmps9
   go_wp2_with (first | (refine be_ 8 #[.int .i64 0, .string (⟨#[]⟩ : ByteArray), .slice none 0 0] 28 ?_; intro gb101 hg w40 hbox hb; have n0_ := aa (below_step zjjbob hb); have n1_ := aa (hbox); have n2_ := aa ((zkpfjp : w.heap.size ≤ gb101)); have n3_ := aa ((zkpfjp : w.heap.size ≤ gb101)); clear HB; have HB := n0_; have BK101 := n1_; have GW101 := n2_; have GE101 := n3_; clear n0_ n1_ n2_ n3_; clear hb hbox hg) | (refine gc_ Tryd.func28 (some 15) #[.slice A0 l0.length c0, .string a1] ?_; (with_reducible refine (impl_zCode.calls k _ _ l0 a1 t102 _ zfmbgg HC0.out A5.out).mono ?_); rintro e w41 ⟨rfl, hb⟩; refine ⟨_, rfl, ?_⟩; replace BK101 := aa (bb_ BK101.out hb); replace HB := aa (below_step zkmbdh hb); (try clear hb hk hi)) | (refine gc_ Tryd.func29 (some 23) #[.slice A0 l0.length c0, .string a1] ?_; (with_reducible refine (impl_find.calls k _ _ l0 a1 t103 false _ zfmbgg HC0.out A7.out).mono ?_); rintro e w42 ⟨rfl, hb⟩; refine ⟨_, rfl, ?_⟩; replace BK101 := aa (bb_ BK101.out hb); replace HB := aa (below_step zkmbdh hb); (try clear hb hk hi)) | (refine gc_ Tryd.func30 (some 28) #[.int .i64 a2] ?_; (with_reducible refine (impl_isData.calls a2 true _ A8.out).mono ?_); rintro e w' ⟨rfl, ⟨nd, rfl⟩⟩; refine ⟨_, rfl, ?_⟩; (try (rw [drewN_self w42]; generalize hq_ : World.drewN w42 _ = w42; have n0_ : Aside0 (w42.heap[gb101]? = some (.cells #[.int .i64 0, .string (⟨#[]⟩ : ByteArray), .slice none 0 0] 28 (0, 0))) := ⟨by rw [← hq_]; exact (zkjhpm BK101.out)⟩; have n1_ : Aside0 (Below w.heap.size w w42) := ⟨by rw [← hq_]; exact zkmbdh⟩; clear BK101 HB hq_; have BK101 := n0_; have HB := n1_; clear n0_ n1_)); obtain ⟨hcz43_0, hcz43_1, hcz43_2, hfz43_0, hfz43_1, hfz43_2⟩ := blk3_ BK101.out))
   refine bodyPost_ret (results_cell_row rfl _ _ gb101 28 #[.int .i64 4, .string (⟨#[]⟩ : ByteArray), .slice none 0 0] (0, 0) _ rfl zcgheb Tryd.underlying28 rfl (by kernel_rfl)) rfl ?_
   exact ⟨_, zlhpib, zhijhk, zkmbdh⟩
  replace c9 := Bool.eq_false_iff.mpr c9
  subst c9
  rw [if_neg fT_] at H
  simp only [Option.some.injEq, Prod.mk.injEq] at H
  obtain ⟨rfl, rfl, rfl⟩ := H
  go_enter Tryd.func9, Tryd.ntmps9
  go_wp2_with (first | (refine be_ 8 #[.int .i64 0, .string (⟨#[]⟩ : ByteArray), .slice none 0 0] 28 ?_; intro gb101 hg w44 hbox hb; have n0_ := aa (below_step zjjbob hb); have n1_ := aa (hbox); have n2_ := aa ((zkpfjp : w.heap.size ≤ gb101)); have n3_ := aa ((zkpfjp : w.heap.size ≤ gb101)); clear HB; have HB := n0_; have BK101 := n1_; have GW101 := n2_; have GE101 := n3_; clear n0_ n1_ n2_ n3_; clear hb hbox hg) | (refine gc_ Tryd.func28 (some 15) #[.slice A0 l0.length c0, .string a1] ?_; (with_reducible refine (impl_zCode.calls k _ _ l0 a1 t102 _ zfmbgg HC0.out A5.out).mono ?_); rintro e w45 ⟨rfl, hb⟩; refine ⟨_, rfl, ?_⟩; replace BK101 := aa (bb_ BK101.out hb); replace HB := aa (below_step zkmbdh hb); (try clear hb hk hi)) | (refine gc_ Tryd.func29 (some 23) #[.slice A0 l0.length c0, .string a1] ?_; (with_reducible refine (impl_find.calls k _ _ l0 a1 t103 t104 _ zfmbgg HC0.out A7.out).mono ?_); rintro e w46 ⟨rfl, hb⟩; refine ⟨_, rfl, ?_⟩; replace BK101 := aa (bb_ BK101.out hb); replace HB := aa (below_step zkmbdh hb); (try clear hb hk hi)) | (refine gc_ Tryd.func30 (some 28) #[.int .i64 a2] ?_; (with_reducible refine (impl_isData.calls a2 false _ A8.out).mono ?_); rintro e w' ⟨rfl, ⟨nd, rfl⟩⟩; refine ⟨_, rfl, ?_⟩; (try (rw [drewN_self w46]; generalize hq_ : World.drewN w46 _ = w46; have n0_ : Aside0 (w46.heap[gb101]? = some (.cells #[.int .i64 0, .string (⟨#[]⟩ : ByteArray), .slice none 0 0] 28 (0, 0))) := ⟨by rw [← hq_]; exact (zkjhpm BK101.out)⟩; have n1_ : Aside0 (Below w.heap.size w w46) := ⟨by rw [← hq_]; exact zkmbdh⟩; clear BK101 HB hq_; have BK101 := n0_; have HB := n1_; clear n0_ n1_)); obtain ⟨hcz47_0, hcz47_1, hcz47_2, hfz47_0, hfz47_1, hfz47_2⟩ := blk3_ BK101.out))
  refine bodyPost_ret (results_cell_row rfl _ _ gb101 28 #[.int .i64 3, .string (⟨#[]⟩ : ByteArray), .slice none 0 0] (0, 0) _ rfl zdnlbm Tryd.underlying28 rfl (by kernel_rfl)) rfl ?_
  exact ⟨_, zlhpib, zhijhk, zkmbdh⟩
 simp only [Option.some.injEq, Prod.mk.injEq] at H
 obtain ⟨rfl, rfl, rfl⟩ := H
 go_enter Tryd.func9, Tryd.ntmps9
 go_wp2_with (first | (refine be_ 8 #[.int .i64 0, .string (⟨#[]⟩ : ByteArray), .slice none 0 0] 28 ?_; intro gb101 hg w48 hbox hb; have n0_ := aa (below_step zjjbob hb); have n1_ := aa (hbox); have n2_ := aa ((zkpfjp : w.heap.size ≤ gb101)); have n3_ := aa ((zkpfjp : w.heap.size ≤ gb101)); clear HB; have HB := n0_; have BK101 := n1_; have GW101 := n2_; have GE101 := n3_; clear n0_ n1_ n2_ n3_; clear hb hbox hg) | (refine gc_ Tryd.func28 (some 15) #[.slice A0 l0.length c0, .string a1] ?_; (with_reducible refine (impl_zCode.calls k _ _ l0 a1 t102 _ zfmbgg HC0.out A5.out).mono ?_); rintro e w49 ⟨rfl, hb⟩; refine ⟨_, rfl, ?_⟩; replace BK101 := aa (bb_ BK101.out hb); replace HB := aa (below_step zkmbdh hb); (try clear hb hk hi); obtain ⟨hcz50_0, hcz50_1, hcz50_2, hfz50_0, hfz50_1, hfz50_2⟩ := blk3_ BK101.out))
 refine bodyPost_ret (results_cell_row rfl _ _ gb101 28 #[.int .i64 t102, .string (⟨#[]⟩ : ByteArray), .slice none 0 0] (0, 0) _ rfl zpdnbb Tryd.underlying28 rfl (by kernel_rfl)) rfl ?_
 exact ⟨_, zlhpib, zhijhk, zkmbdh⟩
mutual
def spec_l2Fault.l0 : Nat → List (S32) → Int → Option (Int)
 | 0, _, _ => none
 | k + 1, x0, x3 => if x3 < (x0.length : Int) then (if 0 ≤ x3 then ((spec_l1Fault.f k ((rd_T32 x0 x3).f0)).bind fun t103 => (if t103 = 0 then ((spec_l2Data.f ((rd_T32 x0 x3).f1)).bind fun t105 => (if t105 = true then ((spec_l1In.f ((rd_T32 x0 x3).f2) 0 999).bind fun t107 => (if t107 = true then ((spec_l2Owner.f ((rd_T32 x0 x3).f3)).bind fun t109 => (if t109 = true then ((spec_l1In.f ((rd_T32 x0 x3).f4) 0 100).bind fun t111 => (spec_l2Fault.j1 k x0 x3 (!t111))) else (spec_l2Fault.j1 k x0 x3 true))) else (spec_l2Fault.j1 k x0 x3 true))) else (spec_l2Fault.j1 k x0 x3 true))) else (some t103))) else (none)) else ((spec_l2At.f k x0 (⟨#[47]⟩ : ByteArray)).bind fun t114 => (if t114 < 0 then (some 4) else (spec_l2Fault.l1 k x0 0)))
def spec_l2Fault.j1 : Nat → List (S32) → Int → Bool → Option (Int)
 | 0, _, _, _ => none
 | k + 1, x0, x3, x57 => if x57 = true then (some 3) else (if x3 > 0 then (if 0 ≤ x3 then (if x3 < (x0.length : Int) then (if 0 ≤ (wrap64 (x3 - 1)) then (if (wrap64 (x3 - 1)) < (x0.length : Int) then (if ((Op.bytesLess (((rd_T32 x0 (wrap64 (x3 - 1))).f0).toList) (((rd_T32 x0 x3).f0).toList)) = true) then (spec_l2Fault.l0 k x0 (wrap64 (x3 + 1))) else (some 1)) else (none)) else (none)) else (none)) else (none)) else (spec_l2Fault.l0 k x0 (wrap64 (x3 + 1))))
def spec_l2Fault.l1 : Nat → List (S32) → Int → Option (Int)
 | 0, _, _ => none
 | k + 1, x0, x6 => if x6 < (x0.length : Int) then (if 0 ≤ x6 then ((spec_l1Parent.f k ((rd_T32 x0 x6).f0)).bind fun t116 => ((spec_l2At.f k x0 t116).bind fun t117 => (if t117 < 0 then (some 4) else (spec_l2Fault.l1 k x0 (wrap64 (x6 + 1)))))) else (none)) else (spec_l2Fault.l2 k x0 0)
def spec_l2Fault.l2 : Nat → List (S32) → Int → Option (Int)
 | 0, _, _ => none
 | k + 1, x0, x7 => if x7 < (x0.length : Int) then (if 0 ≤ x7 then ((spec_l1Parent.f k ((rd_T32 x0 x7).f0)).bind fun t119 => ((spec_l2At.f k x0 t119).bind fun t120 => (if 0 ≤ t120 then (if t120 < (x0.length : Int) then (if ((rd_T32 x0 t120).f3) = 0 then (spec_l2Fault.l2 k x0 (wrap64 (x7 + 1))) else (some 1)) else (none)) else (none)))) else (none)) else (some 0)
end
def spec_l2Fault.f (k : Nat) (l0 : List (S32)) : Option (Int) := if (l0.length : Int) > 20 then (some 2) else (spec_l2Fault.l0 k l0 0)
theorem spec_l2Fault.mono_l : ∀ k, (∀ y0 y1, LeO (spec_l2Fault.l0 k y0 y1) (spec_l2Fault.l0 (k + 1) y0 y1)) ∧ (∀ y0 y1 y2, LeO (spec_l2Fault.j1 k y0 y1 y2) (spec_l2Fault.j1 (k + 1) y0 y1 y2)) ∧ (∀ y0 y1, LeO (spec_l2Fault.l1 k y0 y1) (spec_l2Fault.l1 (k + 1) y0 y1)) ∧ (∀ y0 y1, LeO (spec_l2Fault.l2 k y0 y1) (spec_l2Fault.l2 (k + 1) y0 y1))
 | 0 => ⟨fun _ _ r h => by simp [spec_l2Fault.l0] at h, fun _ _ _ r h => by simp [spec_l2Fault.j1] at h, fun _ _ r h => by simp [spec_l2Fault.l1] at h, fun _ _ r h => by simp [spec_l2Fault.l2] at h⟩
 | k + 1 => by
  obtain ⟨ih0, ih1, ih2, ih3⟩ := spec_l2Fault.mono_l k
  refine ⟨?_, ?_, ?_, ?_⟩
  ·
   intro y0 y1
   unfold spec_l2Fault.l0
   with_reducible repeat' first | exact ih0 _ _ | exact ih1 _ _ _ | exact ih2 _ _ | exact ih3 _ _ | exact spec_l1Fault.mono _ _ | exact spec_l1Parent.mono _ _ | exact spec_l2At.mono _ _ _ | exact LeO.refl _ | exact LeO.none _ | refine LeO.ite ?_ ?_ | refine LeO.bind ?_ (fun _ => ?_)
  ·
   intro y0 y1 y2
   unfold spec_l2Fault.j1
   with_reducible repeat' first | exact ih0 _ _ | exact ih1 _ _ _ | exact ih2 _ _ | exact ih3 _ _ | exact spec_l1Fault.mono _ _ | exact spec_l1Parent.mono _ _ | exact spec_l2At.mono _ _ _ | exact LeO.refl _ | exact LeO.none _ | refine LeO.ite ?_ ?_ | refine LeO.bind ?_ (fun _ => ?_)
  ·
   intro y0 y1
   unfold spec_l2Fault.l1
   with_reducible repeat' first | exact ih0 _ _ | exact ih1 _ _ _ | exact ih2 _ _ | exact ih3 _ _ | exact spec_l1Fault.mono _ _ | exact spec_l1Parent.mono _ _ | exact spec_l2At.mono _ _ _ | exact LeO.refl _ | exact LeO.none _ | refine LeO.ite ?_ ?_ | refine LeO.bind ?_ (fun _ => ?_)
  ·
   intro y0 y1
   unfold spec_l2Fault.l2
   with_reducible repeat' first | exact ih0 _ _ | exact ih1 _ _ _ | exact ih2 _ _ | exact ih3 _ _ | exact spec_l1Fault.mono _ _ | exact spec_l1Parent.mono _ _ | exact spec_l2At.mono _ _ _ | exact LeO.refl _ | exact LeO.none _ | refine LeO.ite ?_ ?_ | refine LeO.bind ?_ (fun _ => ?_)
theorem spec_l2Fault.mono : ∀ a0 k, LeO (spec_l2Fault.f k a0) (spec_l2Fault.f (k + 1) a0) := by
 intro a0 k
 obtain ⟨ih0, ih1, ih2, ih3⟩ := spec_l2Fault.mono_l k
 unfold spec_l2Fault.f
 with_reducible repeat' first | exact ih0 _ _ | exact ih1 _ _ _ | exact ih2 _ _ | exact ih3 _ _ | exact spec_l1Fault.mono _ _ | exact spec_l1Parent.mono _ _ | exact spec_l2At.mono _ _ _ | exact LeO.refl _ | exact LeO.none _ | refine LeO.ite ?_ ?_ | refine LeO.bind ?_ (fun _ => ?_)
theorem spec_l2Fault.calls (k : Nat) (A0 : Option Addr) (c0 : Nat) (l0 : List (S32)) (r : Int) (w : World) (hr0 : Kd.C k32 w A0 l0.length l0) (hc0 : l0.length ≤ c0) (h : spec_l2Fault.f k l0 = some r) :
  Calls Tryd.prog 61 #[.slice A0 l0.length c0] w fun e w' => e = .returned (.int .i64 r) ∧ Below w.heap.size w w' := by
 have HR0 := aa hr0
 have HC0 := aa hc0
 clear hr0 hc0
 have HB := aa (Below.refl w.heap.size w)
 have H : (if (l0.length : Int) > 20 then (some 2) else (spec_l2Fault.l0 k l0 0)) = some r := h
 clear h
 revert H
 refine itC_ (fun c2 H => ?_) fun c2 H => ?_
 ·
  have c2b0 : decide (20 < (l0.length : Int)) = true := decide_eq_true c2
  have c2b1 : decide (20 < l0.length) = true := decide_eq_true (by omega)
  clear c2
  obtain rfl := Option.some.inj H
  go_enter Tryd.func61, Tryd.ntmps61
  go_wp2
  repeat (go_quiet (fail); try go_wp2)
  go_ret
  exact ⟨zlhpib, zjjbob⟩
 have c2b0 : decide (20 < (l0.length : Int)) = false := decide_eq_false c2
 have c2b1 : decide (20 < l0.length) = false := decide_eq_false (by omega)
 clear c2
 have H' := aa H
 clear H
 go_enter Tryd.func61, Tryd.ntmps61
 go_wp2
 repeat (go_quiet (fail); try go_wp2)
 go_loopg [3] k (fun kq v3 w' => ∃ (x3_1 : Int), v3 = .int .i64 x3_1 ∧ Aside0 (spec_l2Fault.l0 kq l0 x3_1 = some r) ∧ Aside0 (kq ≤ k) ∧ Aside0 (Below w.heap.size w w'))
 case atStart => exact ⟨(0), zagbkp, H', ⟨Nat.le_refl _⟩, ⟨zjjbob⟩⟩
 case round =>
  clear H'
  try clear c2
  try clear c2b0
  try clear c2b1
  try clear p2
  obtain ⟨x3_1, rfl, HA, HK1, HB⟩ := hrel
  cases gk with
  | zero => exact absurd HA.out (by simp [spec_l2Fault.l0])
  | succ k1 =>
   have H := HA.out
   clear HA
   simp only [spec_l2Fault.l0] at H
   revert H
   refine itD_ (fun c3b0 H => ?_) fun c3b0 H => ?_
   ·
    revert H
    refine itH_ fun c4b0 H => ?_
    revert H
    refine obs_ fun t103 A5 H => ?_
    revert H
    refine itE_ (fun c6b0 c6b1 H => ?_) fun c6b0 c6b1 H => ?_
    ·
     have HC7 := aa H
     clear H
     have p101 : 0 ≤ (x3_1 : Int) := of_decide_eq_true zgglam
     have q101 : x3_1 < (l0.length : Int) := of_decide_eq_true zgglam
     obtain ⟨ad101, e101, hx101_0, hx101_1, hx101_2, hx101_3, hx101_4⟩ := at_T32 HR0.out x3_1 p101 q101
     cases e101
     replace hx101_0 := pb HB.out hx101_0
     replace hx101_1 := pb HB.out hx101_1
     replace hx101_2 := pb HB.out hx101_2
     replace hx101_3 := pb HB.out hx101_3
     replace hx101_4 := pb HB.out hx101_4
     replace p101 := eq_true p101
     replace q101 := eq_true q101
     have p102 : 0 ≤ (x3_1 : Int) := of_decide_eq_true zgglam
     have q102 : x3_1 < (l0.length : Int) := of_decide_eq_true zgglam
     obtain ⟨ad102, e102, hx102_0, hx102_1, hx102_2, hx102_3, hx102_4⟩ := at_T32 HR0.out x3_1 p102 q102
     obtain rfl : ad101 = ad102 := (by injection e102)
     replace hx102_0 := pb HB.out hx102_0
     replace hx102_1 := pb HB.out hx102_1
     replace hx102_2 := pb HB.out hx102_2
     replace hx102_3 := pb HB.out hx102_3
     replace hx102_4 := pb HB.out hx102_4
     replace p102 := eq_true p102
     replace q102 := eq_true q102
     go_upto_region 10 with (first | (go_at_call 62; (with_reducible refine (spec_l1Fault.calls k1 ((rd_T32 l0 x3_1).f0) t103 _ A5.out).mono ?_); rintro e w8 ⟨rfl, hb⟩; replace HB := aa (below_step zjjbob hb); (try clear hb hk hi)))
     repeat (go_quiet (fail); try go_wp2)
     (try simp only [Act.put, List.setIfInBounds_toArray, List.set_cons_zero, List.set_cons_succ])
     go_cut [57] (fun v57 wc => ∃ (kq : Nat) (x57_6 : Bool), v57 = .bool x57_6 ∧ Aside0 (spec_l2Fault.j1 kq l0 x3_1 x57_6 = some r) ∧ Aside0 (kq ≤ k1) ∧ Aside0 (Below w.heap.size w wc))
     case first =>
      have H := HC7.out
      clear HC7
      revert H
      refine obs_ fun t105 A9 H => ?_
      by_cases c10 : t105 = true
      ·
       subst c10
       rw [if_pos rfl] at H
       revert H
       refine obs_ fun t107 A11 H => ?_
       by_cases c12 : t107 = true
       ·
        subst c12
        rw [if_pos rfl] at H
        revert H
        refine obs_ fun t109 A13 H => ?_
        by_cases c14 : t109 = true
        ·
         subst c14
         rw [if_pos rfl] at H
         revert H
         refine obs_ fun t111 A15 H => ?_
         have H' := aa H
         clear H
         have p104 : 0 ≤ (x3_1 : Int) := of_decide_eq_true zgglam
         have q104 : x3_1 < (l0.length : Int) := of_decide_eq_true zgglam
         obtain ⟨ad104, e104, hx104_0, hx104_1, hx104_2, hx104_3, hx104_4⟩ := at_T32 HR0.out x3_1 p104 q104
         obtain rfl : ad101 = ad104 := (by injection e104)
         replace hx104_0 := pb HB.out hx104_0
         replace hx104_1 := pb HB.out hx104_1
         replace hx104_2 := pb HB.out hx104_2
         replace hx104_3 := pb HB.out hx104_3
         replace hx104_4 := pb HB.out hx104_4
         replace p104 := eq_true p104
         replace q104 := eq_true q104
         go_wp2_with (first | (go_at_call 63; (with_reducible refine (spec_l2Data.calls ((rd_T32 l0 x3_1).f1) true _ A9.out).mono ?_); rintro e w' ⟨rfl, ⟨nd, rfl⟩⟩; (try exact zecaha); have p106 : 0 ≤ (x3_1 : Int) := of_decide_eq_true zgglam; have q106 : x3_1 < (l0.length : Int) := of_decide_eq_true zgglam; obtain ⟨ad106, e106, hx106_0, hx106_1, hx106_2, hx106_3, hx106_4⟩ := at_T32 HR0.out x3_1 p106 q106; obtain rfl : ad101 = ad106 := (by injection e106); replace hx106_0 := pb HB.out hx106_0; replace hx106_1 := pb HB.out hx106_1; replace hx106_2 := pb HB.out hx106_2; replace hx106_3 := pb HB.out hx106_3; replace hx106_4 := pb HB.out hx106_4; replace p106 := eq_true p106; replace q106 := eq_true q106) | (go_at_call 57; (with_reducible refine (spec_l1In.calls ((rd_T32 l0 x3_1).f2) 0 999 true _ A11.out).mono ?_); rintro e w' ⟨rfl, ⟨nd, rfl⟩⟩; (try exact zecaha); have p108 : 0 ≤ (x3_1 : Int) := of_decide_eq_true zgglam; have q108 : x3_1 < (l0.length : Int) := of_decide_eq_true zgglam; obtain ⟨ad108, e108, hx108_0, hx108_1, hx108_2, hx108_3, hx108_4⟩ := at_T32 HR0.out x3_1 p108 q108; obtain rfl : ad101 = ad108 := (by injection e108); replace hx108_0 := pb HB.out hx108_0; replace hx108_1 := pb HB.out hx108_1; replace hx108_2 := pb HB.out hx108_2; replace hx108_3 := pb HB.out hx108_3; replace hx108_4 := pb HB.out hx108_4; replace p108 := eq_true p108; replace q108 := eq_true q108) | (go_at_call 74; (with_reducible refine (spec_l2Owner.calls ((rd_T32 l0 x3_1).f3) true _ A13.out).mono ?_); rintro e w' ⟨rfl, ⟨nd, rfl⟩⟩; (try exact zecaha); have p110 : 0 ≤ (x3_1 : Int) := of_decide_eq_true zgglam; have q110 : x3_1 < (l0.length : Int) := of_decide_eq_true zgglam; obtain ⟨ad110, e110, hx110_0, hx110_1, hx110_2, hx110_3, hx110_4⟩ := at_T32 HR0.out x3_1 p110 q110; obtain rfl : ad101 = ad110 := (by injection e110); replace hx110_0 := pb HB.out hx110_0; replace hx110_1 := pb HB.out hx110_1; replace hx110_2 := pb HB.out hx110_2; replace hx110_3 := pb HB.out hx110_3; replace hx110_4 := pb HB.out hx110_4; replace p110 := eq_true p110; replace q110 := eq_true q110) | (go_at_call 57; (with_reducible refine (spec_l1In.calls ((rd_T32 l0 x3_1).f4) 0 100 t111 _ A15.out).mono ?_); rintro e w' ⟨rfl, ⟨nd, rfl⟩⟩; (try exact zecaha)))
         repeat (go_quiet (fail); try go_wp2)
         go_meet
         case rel => exact ⟨_, (!t111), zagbkp, H', ⟨by have := HK1.out; first | omega | exact Nat.le_refl _⟩, ⟨zjjbob⟩⟩
        replace c14 := Bool.eq_false_iff.mpr c14
        subst c14
        rw [if_neg fT_] at H
        have H' := aa H
        clear H
        have p104 : 0 ≤ (x3_1 : Int) := of_decide_eq_true zgglam
        have q104 : x3_1 < (l0.length : Int) := of_decide_eq_true zgglam
        obtain ⟨ad104, e104, hx104_0, hx104_1, hx104_2, hx104_3, hx104_4⟩ := at_T32 HR0.out x3_1 p104 q104
        obtain rfl : ad101 = ad104 := (by injection e104)
        replace hx104_0 := pb HB.out hx104_0
        replace hx104_1 := pb HB.out hx104_1
        replace hx104_2 := pb HB.out hx104_2
        replace hx104_3 := pb HB.out hx104_3
        replace hx104_4 := pb HB.out hx104_4
        replace p104 := eq_true p104
        replace q104 := eq_true q104
        go_wp2_with (first | (go_at_call 63; (with_reducible refine (spec_l2Data.calls ((rd_T32 l0 x3_1).f1) true _ A9.out).mono ?_); rintro e w' ⟨rfl, ⟨nd, rfl⟩⟩; (try exact zecaha); have p106 : 0 ≤ (x3_1 : Int) := of_decide_eq_true zgglam; have q106 : x3_1 < (l0.length : Int) := of_decide_eq_true zgglam; obtain ⟨ad106, e106, hx106_0, hx106_1, hx106_2, hx106_3, hx106_4⟩ := at_T32 HR0.out x3_1 p106 q106; obtain rfl : ad101 = ad106 := (by injection e106); replace hx106_0 := pb HB.out hx106_0; replace hx106_1 := pb HB.out hx106_1; replace hx106_2 := pb HB.out hx106_2; replace hx106_3 := pb HB.out hx106_3; replace hx106_4 := pb HB.out hx106_4; replace p106 := eq_true p106; replace q106 := eq_true q106) | (go_at_call 57; (with_reducible refine (spec_l1In.calls ((rd_T32 l0 x3_1).f2) 0 999 true _ A11.out).mono ?_); rintro e w' ⟨rfl, ⟨nd, rfl⟩⟩; (try exact zecaha); have p108 : 0 ≤ (x3_1 : Int) := of_decide_eq_true zgglam; have q108 : x3_1 < (l0.length : Int) := of_decide_eq_true zgglam; obtain ⟨ad108, e108, hx108_0, hx108_1, hx108_2, hx108_3, hx108_4⟩ := at_T32 HR0.out x3_1 p108 q108; obtain rfl : ad101 = ad108 := (by injection e108); replace hx108_0 := pb HB.out hx108_0; replace hx108_1 := pb HB.out hx108_1; replace hx108_2 := pb HB.out hx108_2; replace hx108_3 := pb HB.out hx108_3; replace hx108_4 := pb HB.out hx108_4; replace p108 := eq_true p108; replace q108 := eq_true q108) | (go_at_call 74; (with_reducible refine (spec_l2Owner.calls ((rd_T32 l0 x3_1).f3) false _ A13.out).mono ?_); rintro e w' ⟨rfl, ⟨nd, rfl⟩⟩; (try exact zecaha)))
        repeat (go_quiet (fail); try go_wp2)
        go_meet
        case rel => exact ⟨_, (true), zagbkp, H', ⟨by have := HK1.out; first | omega | exact Nat.le_refl _⟩, ⟨zjjbob⟩⟩
       replace c12 := Bool.eq_false_iff.mpr c12
       subst c12
       rw [if_neg fT_] at H
       have H' := aa H
       clear H
       have p104 : 0 ≤ (x3_1 : Int) := of_decide_eq_true zgglam
       have q104 : x3_1 < (l0.length : Int) := of_decide_eq_true zgglam
       obtain ⟨ad104, e104, hx104_0, hx104_1, hx104_2, hx104_3, hx104_4⟩ := at_T32 HR0.out x3_1 p104 q104
       obtain rfl : ad101 = ad104 := (by injection e104)
       replace hx104_0 := pb HB.out hx104_0
       replace hx104_1 := pb HB.out hx104_1
       replace hx104_2 := pb HB.out hx104_2
       replace hx104_3 := pb HB.out hx104_3
       replace hx104_4 := pb HB.out hx104_4
       replace p104 := eq_true p104
       replace q104 := eq_true q104
       go_wp2_with (first | (go_at_call 63; (with_reducible refine (spec_l2Data.calls ((rd_T32 l0 x3_1).f1) true _ A9.out).mono ?_); rintro e w' ⟨rfl, ⟨nd, rfl⟩⟩; (try exact zecaha); have p106 : 0 ≤ (x3_1 : Int) := of_decide_eq_true zgglam; have q106 : x3_1 < (l0.length : Int) := of_decide_eq_true zgglam; obtain ⟨ad106, e106, hx106_0, hx106_1, hx106_2, hx106_3, hx106_4⟩ := at_T32 HR0.out x3_1 p106 q106; obtain rfl : ad101 = ad106 := (by injection e106); replace hx106_0 := pb HB.out hx106_0; replace hx106_1 := pb HB.out hx106_1; replace hx106_2 := pb HB.out hx106_2; replace hx106_3 := pb HB.out hx106_3; replace hx106_4 := pb HB.out hx106_4; replace p106 := eq_true p106; replace q106 := eq_true q106) | (go_at_call 57; (with_reducible refine (spec_l1In.calls ((rd_T32 l0 x3_1).f2) 0 999 false _ A11.out).mono ?_); rintro e w' ⟨rfl, ⟨nd, rfl⟩⟩; (try exact zecaha)))
       repeat (go_quiet (fail); try go_wp2)
       go_meet
       case rel => exact ⟨_, (true), zagbkp, H', ⟨by have := HK1.out; first | omega | exact Nat.le_refl _⟩, ⟨zjjbob⟩⟩
      replace c10 := Bool.eq_false_iff.mpr c10
      subst c10
      rw [if_neg fT_] at H
      have H' := aa H
      clear H
      have p104 : 0 ≤ (x3_1 : Int) := of_decide_eq_true zgglam
      have q104 : x3_1 < (l0.length : Int) := of_decide_eq_true zgglam
      obtain ⟨ad104, e104, hx104_0, hx104_1, hx104_2, hx104_3, hx104_4⟩ := at_T32 HR0.out x3_1 p104 q104
      obtain rfl : ad101 = ad104 := (by injection e104)
      replace hx104_0 := pb HB.out hx104_0
      replace hx104_1 := pb HB.out hx104_1
      replace hx104_2 := pb HB.out hx104_2
      replace hx104_3 := pb HB.out hx104_3
      replace hx104_4 := pb HB.out hx104_4
      replace p104 := eq_true p104
      replace q104 := eq_true q104
      go_wp2_with (first | (go_at_call 63; (with_reducible refine (spec_l2Data.calls ((rd_T32 l0 x3_1).f1) false _ A9.out).mono ?_); rintro e w' ⟨rfl, ⟨nd, rfl⟩⟩; (try exact zecaha)))
      repeat (go_quiet (fail); try go_wp2)
      go_meet
      case rel => exact ⟨_, (true), zagbkp, H', ⟨by have := HK1.out; first | omega | exact Nat.le_refl _⟩, ⟨zjjbob⟩⟩
     case rest =>
      clear HC7
      try clear p1
      try clear q1
      try clear hx1
      try clear c2
      try clear c2b0
      try clear c2b1
      try clear p2
      try clear c3b0
      try clear c4b0
      try clear c6b0
      try clear c6b1
      try clear c10
      try clear p10
      try clear q10
      try clear hx10
      try clear p11
      try clear q11
      try clear hx11
      try clear c12
      try clear c14
      try clear hx101_0
      try clear hx101_1
      try clear hx101_2
      try clear hx101_3
      try clear hx101_4
      try clear hx102_0
      try clear hx102_1
      try clear hx102_2
      try clear hx102_3
      try clear hx102_4
      try clear hx104_0
      try clear hx104_1
      try clear hx104_2
      try clear hx104_3
      try clear hx104_4
      try clear hx106_0
      try clear hx106_1
      try clear hx106_2
      try clear hx106_3
      try clear hx106_4
      try clear hx108_0
      try clear hx108_1
      try clear hx108_2
      try clear hx108_3
      try clear hx108_4
      try clear hx110_0
      try clear hx110_1
      try clear hx110_2
      try clear hx110_3
      try clear hx110_4
      try clear p101
      try clear p102
      try clear p104
      try clear p106
      try clear p108
      try clear p110
      try clear p2
      try clear q101
      try clear q102
      try clear q104
      try clear q106
      try clear q108
      try clear q110
      obtain ⟨kq, x57_6, rfl, HA, HJ6, HB⟩ := hcut
      cases kq with
      | zero => exact absurd HA.out (by simp [spec_l2Fault.j1])
      | succ kj6 =>
       have H := HA.out
       clear HA
       simp only [spec_l2Fault.j1] at H
       by_cases c16 : x57_6 = true
       ·
        subst c16
        rw [if_pos rfl] at H
        obtain rfl := Option.some.inj H
        go_wp2
        repeat (go_quiet (fail); try go_wp2)
        go_ret
        exact ⟨zlhpib, zjjbob⟩
       ·
        replace c16 := Bool.eq_false_iff.mpr c16
        subst c16
        rw [if_neg fT_] at H
        revert H
        refine itC_ (fun c17 H => ?_) fun c17 H => ?_
        ·
         have c17b0 : decide (0 < x3_1) = true := decide_eq_true c17
         clear c17
         revert H
         refine itH_ fun c18b0 H => ?_
         revert H
         refine itH_ fun c19b0 H => ?_
         obtain ⟨ji20, hji20⟩ : ∃ j_ : Int, (wrap64 (x3_1 - 1)) = j_ := ⟨_, rfl⟩
         first | rw [hji20] at H | simp only [hji20] at H
         have hji20w : (IntKind.i64.wrap (x3_1 - 1)) = ji20 := (i64_w _).trans hji20
         revert H
         refine itH_ fun c21b0 H => ?_
         revert H
         refine itH_ fun c22b0 H => ?_
         revert H
         refine itC_ (fun c23 H => ?_) fun c23 H => ?_
         ·
          have c23b0 : (Op.bytesLess (((rd_T32 l0 (ji20)).f0).toList) (((rd_T32 l0 x3_1).f0).toList)) = true := c23
          have c23le_ : ∀ W_ : World, (binOp .leq 9 (.string ((rd_T32 l0 x3_1).f0)) (.string ((rd_T32 l0 (ji20)).f0))).run Tryd.prog W_ = Result.ok (.bool false) W_ := fun W_ => leq_false c23b0 W_
          clear c23
          have H' := aa H
          clear H
          have p112 : 0 ≤ (x3_1 : Int) := of_decide_eq_true zgglam
          have q112 : x3_1 < (l0.length : Int) := of_decide_eq_true zgglam
          obtain ⟨ad112, e112, hx112_0, hx112_1, hx112_2, hx112_3, hx112_4⟩ := at_T32 HR0.out x3_1 p112 q112
          obtain rfl : ad101 = ad112 := (by injection e112)
          replace hx112_0 := pb HB.out hx112_0
          replace hx112_1 := pb HB.out hx112_1
          replace hx112_2 := pb HB.out hx112_2
          replace hx112_3 := pb HB.out hx112_3
          replace hx112_4 := pb HB.out hx112_4
          replace p112 := eq_true p112
          replace q112 := eq_true q112
          have p113 : 0 ≤ ((ji20) : Int) := of_decide_eq_true zgglam
          have q113 : (ji20) < (l0.length : Int) := of_decide_eq_true zgglam
          obtain ⟨ad113, e113, hx113_0, hx113_1, hx113_2, hx113_3, hx113_4⟩ := at_T32 HR0.out (ji20) p113 q113
          obtain rfl : ad101 = ad113 := (by injection e113)
          replace hx113_0 := pb HB.out hx113_0
          replace hx113_1 := pb HB.out hx113_1
          replace hx113_2 := pb HB.out hx113_2
          replace hx113_3 := pb HB.out hx113_3
          replace hx113_4 := pb HB.out hx113_4
          replace p113 := eq_true p113
          replace q113 := eq_true q113
          go_wp2
          repeat (go_quiet (fail); try go_wp2)
          go_roundg kj6
          case measure => have := HK1.out; have := HJ6.out; omega
          case rel => exact ⟨(wrap64 (x3_1 + 1)), zagbkp, H', ⟨by have := HK1.out; have := HJ6.out; omega⟩, ⟨zjjbob⟩⟩
         have c23b0 : (Op.bytesLess (((rd_T32 l0 (ji20)).f0).toList) (((rd_T32 l0 x3_1).f0).toList)) = false := by simpa using c23
         have c23le_ : ∀ W_ : World, (binOp .leq 9 (.string ((rd_T32 l0 x3_1).f0)) (.string ((rd_T32 l0 (ji20)).f0))).run Tryd.prog W_ = Result.ok (.bool true) W_ := fun W_ => leq_true c23b0 W_
         clear c23
         obtain rfl := Option.some.inj H
         have p112 : 0 ≤ (x3_1 : Int) := of_decide_eq_true zgglam
         have q112 : x3_1 < (l0.length : Int) := of_decide_eq_true zgglam
         obtain ⟨ad112, e112, hx112_0, hx112_1, hx112_2, hx112_3, hx112_4⟩ := at_T32 HR0.out x3_1 p112 q112
         obtain rfl : ad101 = ad112 := (by injection e112)
         replace hx112_0 := pb HB.out hx112_0
         replace hx112_1 := pb HB.out hx112_1
         replace hx112_2 := pb HB.out hx112_2
         replace hx112_3 := pb HB.out hx112_3
         replace hx112_4 := pb HB.out hx112_4
         replace p112 := eq_true p112
         replace q112 := eq_true q112
         have p113 : 0 ≤ ((ji20) : Int) := of_decide_eq_true zgglam
         have q113 : (ji20) < (l0.length : Int) := of_decide_eq_true zgglam
         obtain ⟨ad113, e113, hx113_0, hx113_1, hx113_2, hx113_3, hx113_4⟩ := at_T32 HR0.out (ji20) p113 q113
         obtain rfl : ad101 = ad113 := (by injection e113)
         replace hx113_0 := pb HB.out hx113_0
         replace hx113_1 := pb HB.out hx113_1
         replace hx113_2 := pb HB.out hx113_2
         replace hx113_3 := pb HB.out hx113_3
         replace hx113_4 := pb HB.out hx113_4
         replace p113 := eq_true p113
         replace q113 := eq_true q113
         go_wp2
         repeat (go_quiet (fail); try go_wp2)
         go_ret
         exact ⟨by first | rfl | (simp [errW_none, errW_some] <;> rfl) | (simp only [← hji20]; first | rfl | (simp [errW_none, errW_some] <;> rfl)) | (simp [*, errW_none, errW_some] <;> rfl), zjjbob⟩
        have c17b0 : decide (0 < x3_1) = false := decide_eq_false c17
        clear c17
        have H' := aa H
        clear H
        go_wp2
        repeat (go_quiet (fail); try go_wp2)
        go_roundg kj6
        case measure => have := HK1.out; have := HJ6.out; omega
        case rel => exact ⟨(wrap64 (x3_1 + 1)), zagbkp, H', ⟨by have := HK1.out; have := HJ6.out; omega⟩, ⟨zjjbob⟩⟩
    obtain rfl := Option.some.inj H
    have p101 : 0 ≤ (x3_1 : Int) := of_decide_eq_true zgglam
    have q101 : x3_1 < (l0.length : Int) := of_decide_eq_true zgglam
    obtain ⟨ad101, e101, hx101_0, hx101_1, hx101_2, hx101_3, hx101_4⟩ := at_T32 HR0.out x3_1 p101 q101
    cases e101
    replace hx101_0 := pb HB.out hx101_0
    replace hx101_1 := pb HB.out hx101_1
    replace hx101_2 := pb HB.out hx101_2
    replace hx101_3 := pb HB.out hx101_3
    replace hx101_4 := pb HB.out hx101_4
    replace p101 := eq_true p101
    replace q101 := eq_true q101
    have p102 : 0 ≤ (x3_1 : Int) := of_decide_eq_true zgglam
    have q102 : x3_1 < (l0.length : Int) := of_decide_eq_true zgglam
    obtain ⟨ad102, e102, hx102_0, hx102_1, hx102_2, hx102_3, hx102_4⟩ := at_T32 HR0.out x3_1 p102 q102
    obtain rfl : ad101 = ad102 := (by injection e102)
    replace hx102_0 := pb HB.out hx102_0
    replace hx102_1 := pb HB.out hx102_1
    replace hx102_2 := pb HB.out hx102_2
    replace hx102_3 := pb HB.out hx102_3
    replace hx102_4 := pb HB.out hx102_4
    replace p102 := eq_true p102
    replace q102 := eq_true q102
    go_wp2_with (first | (go_at_call 62; (with_reducible refine (spec_l1Fault.calls k1 ((rd_T32 l0 x3_1).f0) t103 _ A5.out).mono ?_); rintro e w24 ⟨rfl, hb⟩; replace HB := aa (below_step zjjbob hb); (try clear hb hk hi)))
    repeat (go_quiet (fail); try go_wp2)
    go_ret
    exact ⟨zlhpib, zjjbob⟩
   ·
    revert H
    refine obs_ fun t114 A25 H => ?_
    revert H
    refine itD_ (fun c26b0 H => ?_) fun c26b0 H => ?_
    ·
     obtain rfl := Option.some.inj H
     go_wp2_with (first | (go_at_call 64; (with_reducible refine (spec_l2At.calls k1 _ _ l0 (⟨#[47]⟩ : ByteArray) t114 _ zfmbgg HC0.out A25.out).mono ?_); rintro e w' ⟨rfl, ⟨nd, rfl⟩⟩; (try exact zecaha)))
     repeat (go_quiet (fail); try go_wp2)
     go_ret
     exact ⟨zlhpib, zjjbob⟩
    have H' := aa H
    clear H
    go_wp2_with (first | (go_at_call 64; (with_reducible refine (spec_l2At.calls k1 _ _ l0 (⟨#[47]⟩ : ByteArray) t114 _ zfmbgg HC0.out A25.out).mono ?_); rintro e w' ⟨rfl, ⟨nd, rfl⟩⟩; (try exact zecaha)))
    repeat (go_quiet (fail); try go_wp2)
    go_loopg [6] k1 (fun kq v6 w' => ∃ (x6_2 : Int), v6 = .int .i64 x6_2 ∧ Aside0 (spec_l2Fault.l1 kq l0 x6_2 = some r) ∧ Aside0 (kq ≤ k1) ∧ Aside0 (Below w.heap.size w w'))
    case atStart => exact ⟨(0), zagbkp, H', ⟨Nat.le_refl _⟩, ⟨zjjbob⟩⟩
    case round =>
     clear H'
     try clear p1
     try clear q1
     try clear hx1
     try clear c2
     try clear c2b0
     try clear c2b1
     try clear p2
     try clear c3b0
     try clear c4b0
     try clear c6b0
     try clear c6b1
     try clear p6
     try clear c10
     try clear p10
     try clear q10
     try clear hx10
     try clear p11
     try clear q11
     try clear hx11
     try clear c12
     try clear c14
     try clear c16
     try clear c17
     try clear c17b0
     try clear c18b0
     try clear c19b0
     try clear c21b0
     try clear c22b0
     try clear c23
     try clear c23b0
     try clear c26b0
     try clear hx101_0
     try clear hx101_1
     try clear hx101_2
     try clear hx101_3
     try clear hx101_4
     try clear hx102_0
     try clear hx102_1
     try clear hx102_2
     try clear hx102_3
     try clear hx102_4
     try clear hx104_0
     try clear hx104_1
     try clear hx104_2
     try clear hx104_3
     try clear hx104_4
     try clear hx106_0
     try clear hx106_1
     try clear hx106_2
     try clear hx106_3
     try clear hx106_4
     try clear hx108_0
     try clear hx108_1
     try clear hx108_2
     try clear hx108_3
     try clear hx108_4
     try clear hx110_0
     try clear hx110_1
     try clear hx110_2
     try clear hx110_3
     try clear hx110_4
     try clear hx112_0
     try clear hx112_1
     try clear hx112_2
     try clear hx112_3
     try clear hx112_4
     try clear hx113_0
     try clear hx113_1
     try clear hx113_2
     try clear hx113_3
     try clear hx113_4
     try clear p1
     try clear p10
     try clear p101
     try clear p102
     try clear p104
     try clear p106
     try clear p108
     try clear p11
     try clear p110
     try clear p112
     try clear p113
     try clear p2
     try clear q1
     try clear q10
     try clear q101
     try clear q102
     try clear q104
     try clear q106
     try clear q108
     try clear q11
     try clear q110
     try clear q112
     try clear q113
     obtain ⟨x6_2, rfl, HA, HK2, HB⟩ := hrel
     cases gk with
     | zero => exact absurd HA.out (by simp [spec_l2Fault.l1])
     | succ k2 =>
      have H := HA.out
      clear HA
      simp only [spec_l2Fault.l1] at H
      revert H
      refine itD_ (fun c27b0 H => ?_) fun c27b0 H => ?_
      ·
       revert H
       refine itH_ fun c28b0 H => ?_
       revert H
       refine obs_ fun t116 A29 H => ?_
       revert H
       refine obs_ fun t117 A30 H => ?_
       revert H
       refine itD_ (fun c31b0 H => ?_) fun c31b0 H => ?_
       ·
        obtain rfl := Option.some.inj H
        have p115 : 0 ≤ (x6_2 : Int) := of_decide_eq_true zgglam
        have q115 : x6_2 < (l0.length : Int) := of_decide_eq_true zgglam
        obtain ⟨ad115, e115, hx115_0, hx115_1, hx115_2, hx115_3, hx115_4⟩ := at_T32 HR0.out x6_2 p115 q115
        cases e115
        replace hx115_0 := pb HB.out hx115_0
        replace hx115_1 := pb HB.out hx115_1
        replace hx115_2 := pb HB.out hx115_2
        replace hx115_3 := pb HB.out hx115_3
        replace hx115_4 := pb HB.out hx115_4
        replace p115 := eq_true p115
        replace q115 := eq_true q115
        go_wp2_with (first | (go_at_call 75; (with_reducible refine (spec_l1Parent.calls k2 ((rd_T32 l0 x6_2).f0) t116 _ A29.out).mono ?_); rintro e w' ⟨rfl, ⟨nd, rfl⟩⟩; (try exact zecaha)) | (go_at_call 64; (with_reducible refine (spec_l2At.calls k2 _ _ l0 t116 t117 _ zifmbg HC0.out A30.out).mono ?_); rintro e w' ⟨rfl, ⟨nd, rfl⟩⟩; (try exact zecaha)))
        repeat (go_quiet (fail); try go_wp2)
        go_ret
        exact ⟨zlhpib, zjjbob⟩
       have H' := aa H
       clear H
       have p115 : 0 ≤ (x6_2 : Int) := of_decide_eq_true zgglam
       have q115 : x6_2 < (l0.length : Int) := of_decide_eq_true zgglam
       obtain ⟨ad115, e115, hx115_0, hx115_1, hx115_2, hx115_3, hx115_4⟩ := at_T32 HR0.out x6_2 p115 q115
       cases e115
       replace hx115_0 := pb HB.out hx115_0
       replace hx115_1 := pb HB.out hx115_1
       replace hx115_2 := pb HB.out hx115_2
       replace hx115_3 := pb HB.out hx115_3
       replace hx115_4 := pb HB.out hx115_4
       replace p115 := eq_true p115
       replace q115 := eq_true q115
       go_wp2_with (first | (go_at_call 75; (with_reducible refine (spec_l1Parent.calls k2 ((rd_T32 l0 x6_2).f0) t116 _ A29.out).mono ?_); rintro e w' ⟨rfl, ⟨nd, rfl⟩⟩; (try exact zecaha)) | (go_at_call 64; (with_reducible refine (spec_l2At.calls k2 _ _ l0 t116 t117 _ zifmbg HC0.out A30.out).mono ?_); rintro e w' ⟨rfl, ⟨nd, rfl⟩⟩; (try exact zecaha)))
       repeat (go_quiet (fail); try go_wp2)
       go_roundg k2
       case measure => have := HK1.out; have := HK2.out; omega
       case rel => exact ⟨(wrap64 (x6_2 + 1)), zagbkp, H', ⟨by have := HK1.out; have := HK2.out; omega⟩, ⟨zjjbob⟩⟩
      ·
       have H' := aa H
       clear H
       go_wp2
       repeat (go_quiet (fail); try go_wp2)
       go_loopg [7] k2 (fun kq v7 w' => ∃ (x7_3 : Int), v7 = .int .i64 x7_3 ∧ Aside0 (spec_l2Fault.l2 kq l0 x7_3 = some r) ∧ Aside0 (kq ≤ k2) ∧ Aside0 (Below w.heap.size w w'))
       case atStart => exact ⟨(0), zagbkp, H', ⟨Nat.le_refl _⟩, ⟨zjjbob⟩⟩
       case round =>
        clear H'
        try clear p1
        try clear q1
        try clear hx1
        try clear c2
        try clear c2b0
        try clear c2b1
        try clear p2
        try clear c3b0
        try clear c4b0
        try clear c6b0
        try clear c6b1
        try clear p6
        try clear c10
        try clear p10
        try clear q10
        try clear hx10
        try clear p11
        try clear q11
        try clear hx11
        try clear c12
        try clear c14
        try clear c16
        try clear c17
        try clear c17b0
        try clear c18b0
        try clear c19b0
        try clear c21b0
        try clear c22b0
        try clear c23
        try clear c23b0
        try clear c26b0
        try clear c27b0
        try clear c28b0
        try clear c31b0
        try clear hx101_0
        try clear hx101_1
        try clear hx101_2
        try clear hx101_3
        try clear hx101_4
        try clear hx102_0
        try clear hx102_1
        try clear hx102_2
        try clear hx102_3
        try clear hx102_4
        try clear hx104_0
        try clear hx104_1
        try clear hx104_2
        try clear hx104_3
        try clear hx104_4
        try clear hx106_0
        try clear hx106_1
        try clear hx106_2
        try clear hx106_3
        try clear hx106_4
        try clear hx108_0
        try clear hx108_1
        try clear hx108_2
        try clear hx108_3
        try clear hx108_4
        try clear hx110_0
        try clear hx110_1
        try clear hx110_2
        try clear hx110_3
        try clear hx110_4
        try clear hx112_0
        try clear hx112_1
        try clear hx112_2
        try clear hx112_3
        try clear hx112_4
        try clear hx113_0
        try clear hx113_1
        try clear hx113_2
        try clear hx113_3
        try clear hx113_4
        try clear hx115_0
        try clear hx115_1
        try clear hx115_2
        try clear hx115_3
        try clear hx115_4
        try clear p1
        try clear p10
        try clear p101
        try clear p102
        try clear p104
        try clear p106
        try clear p108
        try clear p11
        try clear p110
        try clear p112
        try clear p113
        try clear p115
        try clear p2
        try clear p6
        try clear q1
        try clear q10
        try clear q101
        try clear q102
        try clear q104
        try clear q106
        try clear q108
        try clear q11
        try clear q110
        try clear q112
        try clear q113
        try clear q115
        obtain ⟨x7_3, rfl, HA, HK3, HB⟩ := hrel
        cases gk with
        | zero => exact absurd HA.out (by simp [spec_l2Fault.l2])
        | succ k3 =>
         have H := HA.out
         clear HA
         simp only [spec_l2Fault.l2] at H
         revert H
         refine itD_ (fun c32b0 H => ?_) fun c32b0 H => ?_
         ·
          revert H
          refine itH_ fun c33b0 H => ?_
          revert H
          refine obs_ fun t119 A34 H => ?_
          revert H
          refine obs_ fun t120 A35 H => ?_
          revert H
          refine itH_ fun c36b0 H => ?_
          revert H
          refine itH_ fun c37b0 H => ?_
          revert H
          refine itE_ (fun c38b0 c38b1 H => ?_) fun c38b0 c38b1 H => ?_
          ·
           have H' := aa H
           clear H
           have p118 : 0 ≤ (x7_3 : Int) := of_decide_eq_true zgglam
           have q118 : x7_3 < (l0.length : Int) := of_decide_eq_true zgglam
           obtain ⟨ad118, e118, hx118_0, hx118_1, hx118_2, hx118_3, hx118_4⟩ := at_T32 HR0.out x7_3 p118 q118
           cases e118
           replace hx118_0 := pb HB.out hx118_0
           replace hx118_1 := pb HB.out hx118_1
           replace hx118_2 := pb HB.out hx118_2
           replace hx118_3 := pb HB.out hx118_3
           replace hx118_4 := pb HB.out hx118_4
           replace p118 := eq_true p118
           replace q118 := eq_true q118
           go_wp2_with (first | (go_at_call 75; (with_reducible refine (spec_l1Parent.calls k3 ((rd_T32 l0 x7_3).f0) t119 _ A34.out).mono ?_); rintro e w' ⟨rfl, ⟨nd, rfl⟩⟩; (try exact zecaha)) | (go_at_call 64; (with_reducible refine (spec_l2At.calls k3 _ _ l0 t119 t120 _ zifmbg HC0.out A35.out).mono ?_); rintro e w' ⟨rfl, ⟨nd, rfl⟩⟩; (try exact zecaha); have p121 : 0 ≤ (t120 : Int) := of_decide_eq_true zgglam; have q121 : t120 < (l0.length : Int) := of_decide_eq_true zgglam; obtain ⟨ad121, e121, hx121_0, hx121_1, hx121_2, hx121_3, hx121_4⟩ := at_T32 HR0.out t120 p121 q121; obtain rfl : ad118 = ad121 := (by injection e121); replace hx121_0 := pb HB.out hx121_0; replace hx121_1 := pb HB.out hx121_1; replace hx121_2 := pb HB.out hx121_2; replace hx121_3 := pb HB.out hx121_3; replace hx121_4 := pb HB.out hx121_4; replace p121 := eq_true p121; replace q121 := eq_true q121))
           repeat (go_quiet (fail); try go_wp2)
           go_roundg k3
           case measure => have := HK1.out; have := HK2.out; have := HK3.out; omega
           case rel => exact ⟨(wrap64 (x7_3 + 1)), zagbkp, H', ⟨by have := HK1.out; have := HK2.out; have := HK3.out; omega⟩, ⟨zjjbob⟩⟩
          obtain rfl := Option.some.inj H
          have p118 : 0 ≤ (x7_3 : Int) := of_decide_eq_true zgglam
          have q118 : x7_3 < (l0.length : Int) := of_decide_eq_true zgglam
          obtain ⟨ad118, e118, hx118_0, hx118_1, hx118_2, hx118_3, hx118_4⟩ := at_T32 HR0.out x7_3 p118 q118
          cases e118
          replace hx118_0 := pb HB.out hx118_0
          replace hx118_1 := pb HB.out hx118_1
          replace hx118_2 := pb HB.out hx118_2
          replace hx118_3 := pb HB.out hx118_3
          replace hx118_4 := pb HB.out hx118_4
          replace p118 := eq_true p118
          replace q118 := eq_true q118
          go_wp2_with (first | (go_at_call 75; (with_reducible refine (spec_l1Parent.calls k3 ((rd_T32 l0 x7_3).f0) t119 _ A34.out).mono ?_); rintro e w' ⟨rfl, ⟨nd, rfl⟩⟩; (try exact zecaha)) | (go_at_call 64; (with_reducible refine (spec_l2At.calls k3 _ _ l0 t119 t120 _ zifmbg HC0.out A35.out).mono ?_); rintro e w' ⟨rfl, ⟨nd, rfl⟩⟩; (try exact zecaha); have p121 : 0 ≤ (t120 : Int) := of_decide_eq_true zgglam; have q121 : t120 < (l0.length : Int) := of_decide_eq_true zgglam; obtain ⟨ad121, e121, hx121_0, hx121_1, hx121_2, hx121_3, hx121_4⟩ := at_T32 HR0.out t120 p121 q121; obtain rfl : ad118 = ad121 := (by injection e121); replace hx121_0 := pb HB.out hx121_0; replace hx121_1 := pb HB.out hx121_1; replace hx121_2 := pb HB.out hx121_2; replace hx121_3 := pb HB.out hx121_3; replace hx121_4 := pb HB.out hx121_4; replace p121 := eq_true p121; replace q121 := eq_true q121))
          repeat (go_quiet (fail); try go_wp2)
          go_ret
          exact ⟨zlhpib, zjjbob⟩
         ·
          obtain rfl := Option.some.inj H
          go_wp2
          repeat (go_quiet (fail); try go_wp2)
          go_ret
          exact ⟨zlhpib, zjjbob⟩
def spec_l2Asked.f (k : Nat) (l0 : List (S32)) (a1 : ByteArray) : Option (Int) := (spec_l2Fault.f k l0).bind fun t101 => (if t101 = 0 then ((spec_l1Fault.f k a1).bind fun t102 => (some t102)) else (some t101))
theorem spec_l2Asked.mono : ∀ a0 a1 k, LeO (spec_l2Asked.f k a0 a1) (spec_l2Asked.f (k + 1) a0 a1) := by
 intro a0 a1 k
 unfold spec_l2Asked.f
 with_reducible repeat' first | exact spec_l1Fault.mono _ _ | exact spec_l2Fault.mono _ _ | exact LeO.refl _ | exact LeO.none _ | refine LeO.ite ?_ ?_ | refine LeO.bind ?_ (fun _ => ?_)
theorem spec_l2Asked.calls (k : Nat) (A0 : Option Addr) (c0 : Nat) (l0 : List (S32)) (a1 : ByteArray) (r : Int) (w : World) (hr0 : Kd.C k32 w A0 l0.length l0) (hc0 : l0.length ≤ c0) (h : spec_l2Asked.f k l0 a1 = some r) :
  Calls Tryd.prog 33 #[.slice A0 l0.length c0, .string a1] w fun e w' => e = .returned (.int .i64 r) ∧ Below w.heap.size w w' := by
 have HR0 := aa hr0
 have HC0 := aa hc0
 clear hr0 hc0
 have HB := aa (Below.refl w.heap.size w)
 have H : ((spec_l2Fault.f k l0).bind fun t101 => (if t101 = 0 then ((spec_l1Fault.f k a1).bind fun t102 => (some t102)) else (some t101))) = some r := h
 clear h
 revert H
 refine obs_ fun t101 A3 H => ?_
 revert H
 refine itE_ (fun c4b0 c4b1 H => ?_) fun c4b0 c4b1 H => ?_
 ·
  revert H
  refine obs_ fun t102 A5 H => ?_
  obtain rfl := Option.some.inj H
  go_enter Tryd.func33, Tryd.ntmps33
  go_wp2_with (first | (refine gc_ Tryd.func61 (some 7) #[.slice A0 l0.length c0] ?_; (with_reducible refine (spec_l2Fault.calls k _ _ l0 t101 _ zebgon HC0.out A3.out).mono ?_); rintro e w6 ⟨rfl, hb⟩; refine ⟨_, rfl, ?_⟩; replace HB := aa (below_step zjjbob hb); (try clear hb hk hi)) | (refine gc_ Tryd.func62 (some 12) #[.string a1] ?_; (with_reducible refine (spec_l1Fault.calls k a1 t102 _ A5.out).mono ?_); rintro e w7 ⟨rfl, hb⟩; refine ⟨_, rfl, ?_⟩; replace HB := aa (below_step zjjbob hb); (try clear hb hk hi)))
  go_ret
  exact ⟨zlhpib, zjjbob⟩
 obtain rfl := Option.some.inj H
 go_enter Tryd.func33, Tryd.ntmps33
 go_wp2_with (first | (refine gc_ Tryd.func61 (some 7) #[.slice A0 l0.length c0] ?_; (with_reducible refine (spec_l2Fault.calls k _ _ l0 t101 _ zebgon HC0.out A3.out).mono ?_); rintro e w8 ⟨rfl, hb⟩; refine ⟨_, rfl, ?_⟩; replace HB := aa (below_step zjjbob hb); (try clear hb hk hi)))
 go_ret
 exact ⟨zlhpib, zjjbob⟩
def spec_SetZ.f (k : Nat) (l0 : List (S32)) (a1 : ByteArray) (a2 : Int) (a3 : Int) : Option (Int × ByteArray × (List (S32))) := (spec_l2Asked.f k l0 a1).bind fun t102 => (if t102 = 0 then ((spec_l2Set.f k l0 a1 a2 a3).bind fun bt103 => (some (bt103.1, bt103.2.1, bt103.2.2))) else ((spec_l2Bad.f t102).bind fun bt108 => (some (bt108.1, bt108.2.1, bt108.2.2))))
theorem spec_SetZ.mono : ∀ a0 a1 a2 a3 k, LeO (spec_SetZ.f k a0 a1 a2 a3) (spec_SetZ.f (k + 1) a0 a1 a2 a3) := by
 intro a0 a1 a2 a3 k
 unfold spec_SetZ.f
 with_reducible repeat' first | exact spec_l2Asked.mono _ _ _ | exact spec_l2Set.mono _ _ _ _ _ | exact LeO.refl _ | exact LeO.none _ | refine LeO.ite ?_ ?_ | refine LeO.bind ?_ (fun _ => ?_)
theorem spec_SetZ.calls (k : Nat) (A0 : Option Addr) (c0 : Nat) (l0 : List (S32)) (a1 : ByteArray) (a2 : Int) (a3 : Int) (r1 : Int) (r2 : ByteArray) (r3 : List (S32)) (w : World) (hr0 : Kd.C k32 w A0 l0.length l0) (hc0 : l0.length ≤ c0) (h : spec_SetZ.f k l0 a1 a2 a3 = some (r1, r2, r3)) :
  Calls Tryd.prog 10 #[.slice A0 l0.length c0, .string a1, .int .i64 a2, .int .i64 a3] w fun e w' => ∃ v2_ : Value, e = .returned (.agg #[.int .i64 r1, .string r2, v2_]) ∧ Kd.R k32 32 w' w.heap.size (fun _ => True) v2_ r3 ∧ Below w.heap.size w w' := by
 have hu28 := Tryd.underlying28
 have HR0 := aa hr0
 have HC0 := aa hc0
 clear hr0 hc0
 have HB := aa (Below.refl w.heap.size w)
 have H : ((spec_l2Asked.f k l0 a1).bind fun t102 => (if t102 = 0 then ((spec_l2Set.f k l0 a1 a2 a3).bind fun bt103 => (some (bt103.1, bt103.2.1, bt103.2.2))) else ((spec_l2Bad.f t102).bind fun bt108 => (some (bt108.1, bt108.2.1, bt108.2.2))))) = some (r1, r2, r3) := h
 clear h
 revert H
 refine obs_ fun t102 A5 H => ?_
 revert H
 refine itE_ (fun c6b0 c6b1 H => ?_) fun c6b0 c6b1 H => ?_
 ·
  revert H
  refine ob3_ fun t103 t104 t105 A7 H => ?_
  (try dsimp only at H)
  simp only [Option.some.injEq, Prod.mk.injEq] at H
  obtain ⟨rfl, rfl, rfl⟩ := H
  go_enter Tryd.func10, Tryd.ntmps10
  go_wp2_with (first | (refine be_ 8 #[.int .i64 0, .string (⟨#[]⟩ : ByteArray), .slice none 0 0] 28 ?_; intro gb101 hg w8 hbox hb; have n0_ := aa (below_step zjjbob hb); have n1_ := aa (hbox); have n2_ := aa ((zkpfjp : w.heap.size ≤ gb101)); have n3_ := aa ((zkpfjp : w.heap.size ≤ gb101)); clear HB; have HB := n0_; have BK101 := n1_; have GW101 := n2_; have GE101 := n3_; clear n0_ n1_ n2_ n3_; clear hb hbox hg) | (refine gc_ Tryd.func33 (some 12) #[.slice A0 l0.length c0, .string a1] ?_; (with_reducible refine (spec_l2Asked.calls k _ _ l0 a1 t102 _ zfmbgg HC0.out A5.out).mono ?_); rintro e w9 ⟨rfl, hb⟩; refine ⟨_, rfl, ?_⟩; replace BK101 := aa (bb_ BK101.out hb); replace HB := aa (below_step zkmbdh hb); (try clear hb hk hi)) | (refine gc_ Tryd.func35 (some 21) #[.slice A0 l0.length c0, .string a1, .int .i64 a2, .int .i64 a3] ?_; (with_reducible refine (spec_l2Set.calls k _ _ l0 a1 a2 a3 t103 t104 t105 _ zfmbgg HC0.out A7.out).mono ?_); rintro e w10 ⟨v106, rfl, ho0, hb⟩; refine ⟨_, rfl, ?_⟩; have HO107 := aa (Kd.R_lower ho0 (below_size zkmbdh)); replace BK101 := aa (bb_ BK101.out hb); replace HB := aa (below_step zkmbdh hb); (try clear hb hk hi ho0); obtain ⟨hcz11_0, hcz11_1, hcz11_2, hfz11_0, hfz11_1, hfz11_2⟩ := blk3_ BK101.out; obtain ⟨Ao12, co12, eo12⟩ := Kd.R_slice HO107.out; subst eo12))
  refine bodyPost_ret (results_cell_row rfl _ _ gb101 28 #[.int .i64 t103, .string t104, .slice Ao12 t105.length co12] (0, 0) _ rfl zdmkil Tryd.underlying28 rfl (by kernel_rfl)) rfl ?_
  exact ⟨_, zlhpib, by (with_reducible repeat (first | apply Kd.R_alloc | apply Kd.R_drewN | apply Kd.R_drew)); exact Kd.R_mono (Kd.R_far (p := ⟨gb101, 2, none⟩) (Kd.R_far (p := ⟨gb101, 1, none⟩) (Kd.R_far (p := ⟨gb101, 0, none⟩) (Kd.R_types HO107.out BK101.out (by decide)) (fun _ hk => hk.2) (.int .i64 t103)) (fun _ hk => hk.2) (.string t104)) (fun _ hk => hk.2) (.slice Ao12 t105.length co12)) (fun _ hk => trivial), zkmbdh⟩
 revert H
 refine ob3_ fun t108 t109 t110 A13 H => ?_
 (try dsimp only at H)
 simp only [Option.some.injEq, Prod.mk.injEq] at H
 obtain ⟨rfl, rfl, rfl⟩ := H
 go_enter Tryd.func10, Tryd.ntmps10
 go_wp2_with (first | (refine be_ 8 #[.int .i64 0, .string (⟨#[]⟩ : ByteArray), .slice none 0 0] 28 ?_; intro gb101 hg w14 hbox hb; have n0_ := aa (below_step zjjbob hb); have n1_ := aa (hbox); have n2_ := aa ((zkpfjp : w.heap.size ≤ gb101)); have n3_ := aa ((zkpfjp : w.heap.size ≤ gb101)); clear HB; have HB := n0_; have BK101 := n1_; have GW101 := n2_; have GE101 := n3_; clear n0_ n1_ n2_ n3_; clear hb hbox hg) | (refine gc_ Tryd.func33 (some 12) #[.slice A0 l0.length c0, .string a1] ?_; (with_reducible refine (spec_l2Asked.calls k _ _ l0 a1 t102 _ zfmbgg HC0.out A5.out).mono ?_); rintro e w15 ⟨rfl, hb⟩; refine ⟨_, rfl, ?_⟩; replace BK101 := aa (bb_ BK101.out hb); replace HB := aa (below_step zkmbdh hb); (try clear hb hk hi)) | (refine gc_ Tryd.func34 (some 16) #[.int .i64 t102] ?_; (with_reducible refine (spec_l2Bad.calls t102 t108 t109 t110 _ A13.out).mono ?_); rintro e w16 ⟨v111, rfl, ho0, hb⟩; refine ⟨_, rfl, ?_⟩; have HO112 := aa (Kd.R_lower ho0 (below_size zkmbdh)); replace BK101 := aa (bb_ BK101.out hb); replace HB := aa (below_step zkmbdh hb); (try clear hb hk hi ho0); obtain ⟨hcz17_0, hcz17_1, hcz17_2, hfz17_0, hfz17_1, hfz17_2⟩ := blk3_ BK101.out; obtain ⟨Ao18, co18, eo18⟩ := Kd.R_slice HO112.out; subst eo18))
 refine bodyPost_ret (results_cell_row rfl _ _ gb101 28 #[.int .i64 t108, .string t109, .slice Ao18 t110.length co18] (0, 0) _ rfl zmdafi Tryd.underlying28 rfl (by kernel_rfl)) rfl ?_
 exact ⟨_, zlhpib, by (with_reducible repeat (first | apply Kd.R_alloc | apply Kd.R_drewN | apply Kd.R_drew)); exact Kd.R_mono (Kd.R_far (p := ⟨gb101, 2, none⟩) (Kd.R_far (p := ⟨gb101, 1, none⟩) (Kd.R_far (p := ⟨gb101, 0, none⟩) (Kd.R_types HO112.out BK101.out (by decide)) (fun _ hk => hk.2) (.int .i64 t108)) (fun _ hk => hk.2) (.string t109)) (fun _ hk => hk.2) (.slice Ao18 t110.length co18)) (fun _ hk => trivial), zkmbdh⟩
end Go.Proofs.YtegggpipggniaaaDoor.Qa