import Derived.Test.YtegggpipggniaaaDoorQax0
import Derived.Test.YtegggpipggniaaaDoorQax19
namespace Go.Proofs.YtegggpipggniaaaDoor.Qa
open Go.RowKit Go.Proofs.YtegggpipggniaaaDoorW.PrintWords Go.Proofs.YtegggpipggniaaaDoorW.PrintLast Go.Proofs.YtegggpipggniaaaDoorW.PrintMore
attribute [local go_sem] max2_int min2_int max_two min_two max_three min_three max_four min_four
set_option linter.unusedVariables false
set_option linter.unusedSimpArgs false
set_option maxHeartbeats 8000000
set_option maxRecDepth 100000

/-! ### impl_kids: function 39 -/
def impl_kids.l0 : Nat → ByteArray → List ByteArray → List (S32) → Int → Int → Option (List ByteArray)
 | 0, _, _, _, _, _ => none
 | k + 1, x1, x5, x11, x12, x13 => if x13 < x12 then (if 0 ≤ x13 then (if x13 < (x11.length : Int) then ((impl_parted.f k ((rd_T32 x11 x13).f0)).bind fun bt106 => (if ((rd_T32 x11 x13).f0).toList = ([47] : List UInt8) then (impl_kids.l0 k x1 x5 x11 x12 (wrap64 (x13 + 1))) else (if bt106.1.toList = x1.toList then (if x5.length < 8796093022208 then (impl_kids.l0 k x1 (x5 ++ [bt106.2]) x11 x12 (wrap64 (x13 + 1))) else (none)) else (impl_kids.l0 k x1 x5 x11 x12 (wrap64 (x13 + 1)))))) else (none)) else (none)) else (some x5)
def impl_kids.f (k : Nat) (l0 : List (S32)) (a1 : ByteArray) : Option (List ByteArray) := impl_kids.l0 k a1 (([] : List ByteArray)) l0 (l0.length : Int) 0
theorem impl_kids.mono_l : ∀ k, (∀ y0 y1 y2 y3 y4, LeO (impl_kids.l0 k y0 y1 y2 y3 y4) (impl_kids.l0 (k + 1) y0 y1 y2 y3 y4))
 | 0 => fun _ _ _ _ _ r h => by simp [impl_kids.l0] at h
 | k + 1 => by
  have ih0 := impl_kids.mono_l k
  ·
   intro y0 y1 y2 y3 y4
   unfold impl_kids.l0
   with_reducible repeat' first | exact ih0 _ _ _ _ _ | exact impl_parted.mono _ _ | exact LeO.refl _ | exact LeO.none _ | refine LeO.ite ?_ ?_ | refine LeO.bind ?_ (fun _ => ?_)
theorem impl_kids.mono : ∀ a0 a1 k, LeO (impl_kids.f k a0 a1) (impl_kids.f (k + 1) a0 a1) := by
 intro a0 a1 k
 have ih0 := impl_kids.mono_l k
 unfold impl_kids.f
 with_reducible repeat' first | exact ih0 _ _ _ _ _ | exact impl_parted.mono _ _ | exact LeO.refl _ | exact LeO.none _ | refine LeO.ite ?_ ?_ | refine LeO.bind ?_ (fun _ => ?_)
theorem impl_kids.calls (k : Nat) (A0 : Option Addr) (c0 : Nat) (l0 : List (S32)) (a1 : ByteArray) (r : List ByteArray) (w : World) (hr0 : Kd.C k32 w A0 l0.length l0) (hc0 : l0.length ≤ c0) (h : impl_kids.f k l0 a1 = some r) :
  Calls Tryd.prog 39 #[.slice A0 l0.length c0, .string a1] w fun e w' => ∃ v0_ : Value, e = .returned (v0_) ∧ Kd.R Kd.string 9 w' w.heap.size (fun _ => True) v0_ r ∧ Below w.heap.size w w' := by
 have hu32 := Tryd.underlying32
 have HR0 := aa hr0
 have HC0 := aa hc0
 clear hr0 hc0
 have HB := aa (Below.refl w.heap.size w)
 have H : (impl_kids.l0 k a1 (([] : List ByteArray)) l0 (l0.length : Int) 0) = some r := h
 clear h
 obtain ⟨y101, hy101⟩ : ∃ y_ : List ByteArray, y_ = (([] : List ByteArray)) := ⟨_, rfl⟩
 replace H : (impl_kids.l0 k a1 y101 l0 (l0.length : Int) 0) = some r := by cases hy101; exact H
 have Ny101 := aa hy101
 clear hy101
 have H' := aa H
 clear H
 go_enter Tryd.func39, Tryd.ntmps39
 go_wp2_with (first | ((with_reducible refine gate_dst (N := 10) rfl ?_); refine Kd.R_lit Kd.string _ 9 ?hg (N := 10) ?hd (xs := ([] : List ByteArray)) (inner := []) (ok := fun _ => True) (okp := fun _ => True) ?hr ?hp (fun _ hk => hk) trivial (Below.refl _ _) (Nat.le_refl _) (by simp) ?_; (case hd => rfl); (case hg => rfl); (case hr => exact zhlgcp); (case hp => exact (Reps.none _ _)); intro v102 w3 ho4 hb hg_ hnew_; clear hg_ hnew_; (first | rw [← Ny101.out] at ho4 | (simp only [Int.reduceToNat] at ho4; rw [← Ny101.out] at ho4)); have HO103 := aa (Kd.R_lower ho4 (below_size zjjbob)); replace HB := aa (below_step zjjbob hb); clear hb ho4))
 go_loopg [5, 13] k (fun kq v5 v13 w' => ∃ (x5_1 : List ByteArray) (x13_1 : Int), v13 = .int .i64 x13_1 ∧ Aside0 (impl_kids.l0 kq a1 x5_1 l0 (l0.length : Int) x13_1 = some r) ∧ Aside0 (kq ≤ k) ∧ Aside0 (Kd.R Kd.string 9 w' w.heap.size (fun _ => True) v5 x5_1) ∧ Aside0 (Below w.heap.size w w'))
 case atStart => exact ⟨(y101), (0), zagbkp, H', ⟨Nat.le_refl _⟩, ⟨zcaken HO103.out⟩, ⟨zjjbob⟩⟩
 case round =>
  clear H'
  try clear p2
  obtain ⟨x5_1, x13_1, rfl, HA, HK1, HO_5, HB⟩ := hrel
  cases gk with
  | zero => exact absurd HA.out (by simp [impl_kids.l0])
  | succ k1 =>
   have H := HA.out
   clear HA
   simp only [impl_kids.l0] at H
   revert H
   refine itD_ (fun c5b0 H => ?_) fun c5b0 H => ?_
   ·
    revert H
    refine itH_ fun c6b0 H => ?_
    revert H
    refine itH_ fun c7b0 H => ?_
    revert H
    refine ob2_ fun t106 t107 A8 H => ?_
    (try dsimp only at H)
    revert H
    refine itE_ (fun c9b0 c9b1 H => ?_) fun c9b0 c9b1 H => ?_
    ·
     have H' := aa H
     clear H
     have p104 : 0 ≤ (x13_1 : Int) := of_decide_eq_true zgglam
     have q104 : x13_1 < (l0.length : Int) := of_decide_eq_true zgglam
     obtain ⟨ad104, e104, hx104_0, hx104_1, hx104_2, hx104_3, hx104_4⟩ := at_T32 HR0.out x13_1 p104 q104
     cases e104
     replace hx104_0 := pb HB.out hx104_0
     replace hx104_1 := pb HB.out hx104_1
     replace hx104_2 := pb HB.out hx104_2
     replace hx104_3 := pb HB.out hx104_3
     replace hx104_4 := pb HB.out hx104_4
     replace p104 := eq_true p104
     replace q104 := eq_true q104
     go_wp2_with (first | (refine be_ 7 #[.string (⟨#[]⟩ : ByteArray), .int .i64 0, .int .i64 0, .int .i64 0, .int .i64 0] 32 ?_; intro gb105 hg w10 hbox hb; have n0_ := aa (Kd.R_below (zcaken HO_5.out) hb); have n1_ := aa (below_step zjjbob hb); have n2_ := aa (hbox); have n3_ := aa ((zkpfjp : w.heap.size ≤ gb105)); have n4_ := aa ((zkpfjp : w.heap.size ≤ gb105)); clear HO_5; clear HB; have HO_5 := n0_; have HB := n1_; have BK105 := n2_; have GW105 := n3_; have GE105 := n4_; clear n0_ n1_ n2_ n3_ n4_; clear hb hbox hg; obtain ⟨hcz11_0, hcz11_1, hcz11_2, hcz11_3, hcz11_4, hfz11_0, hfz11_1, hfz11_2, hfz11_3, hfz11_4⟩ := blk5_ BK105.out) | (refine gc_ Tryd.func37 (some 20) #[.string ((rd_T32 l0 x13_1).f0)] ?_; (with_reducible refine (impl_parted.calls k1 ((rd_T32 l0 x13_1).f0) t106 t107 _ A8.out).mono ?_); rintro e w12 ⟨rfl, hb⟩; refine ⟨_, rfl, ?_⟩; have n0_ := aa (Kd.R_below (by (with_reducible repeat (first | apply Kd.R_alloc | apply Kd.R_drewN | apply Kd.R_drew)); exact (Kd.R_mono (Kd.R_far (p := ⟨gb105, 4, none⟩) (Kd.R_far (p := ⟨gb105, 3, none⟩) (Kd.R_far (p := ⟨gb105, 2, none⟩) (Kd.R_far (p := ⟨gb105, 1, none⟩) (Kd.R_far (p := ⟨gb105, 0, none⟩) (Kd.R_types HO_5.out BK105.out (by decide)) (fun _ hk => hk.2) (.string ((rd_T32 l0 x13_1).f0))) (fun _ hk => hk.2) (.int .i64 ((rd_T32 l0 x13_1).f1))) (fun _ hk => hk.2) (.int .i64 ((rd_T32 l0 x13_1).f2))) (fun _ hk => hk.2) (.int .i64 ((rd_T32 l0 x13_1).f3))) (fun _ hk => hk.2) (.int .i64 ((rd_T32 l0 x13_1).f4))) (fun _ h_ => h_.1))) hb); have n1_ := aa (blk_below (g := gb105) (o := .cells #[.string ((rd_T32 l0 x13_1).f0), .int .i64 ((rd_T32 l0 x13_1).f1), .int .i64 ((rd_T32 l0 x13_1).f2), .int .i64 ((rd_T32 l0 x13_1).f3), .int .i64 ((rd_T32 l0 x13_1).f4)] 32 (0, 0)) zlbloi hb); have n2_ := aa (below_step zpeihn hb); clear HO_5; clear BK105; clear HB; have HO_5 := n0_; have BK105 := n1_; have HB := n2_; clear n0_ n1_ n2_; (try clear hb hk hi); obtain ⟨hcz13_0, hcz13_1, hcz13_2, hcz13_3, hcz13_4, hfz13_0, hfz13_1, hfz13_2, hfz13_3, hfz13_4⟩ := blk5_ BK105.out))
     go_roundg k1
     case measure => have := HK1.out; omega
     case rel => exact ⟨(x5_1), (wrap64 (x13_1 + 1)), zagbkp, H', ⟨by have := HK1.out; omega⟩, ⟨zcaken HO_5.out⟩, ⟨zpeihn⟩⟩
    revert H
    refine itE_ (fun c14b0 c14b1 H => ?_) fun c14b0 c14b1 H => ?_
    ·
     revert H
     refine itG_ fun c15 H => ?_
     have LMc15 := aa c15
     clear c15
     obtain ⟨y108, hy108⟩ : ∃ y_ : List ByteArray, y_ = (x5_1 ++ [t107]) := ⟨_, rfl⟩
     replace H : (impl_kids.l0 k1 a1 y108 l0 (l0.length : Int) (wrap64 (x13_1 + 1))) = some r := by cases hy108; exact H
     have Ny108 := aa hy108
     clear hy108
     have H' := aa H
     clear H
     have p104 : 0 ≤ (x13_1 : Int) := of_decide_eq_true zgglam
     have q104 : x13_1 < (l0.length : Int) := of_decide_eq_true zgglam
     obtain ⟨ad104, e104, hx104_0, hx104_1, hx104_2, hx104_3, hx104_4⟩ := at_T32 HR0.out x13_1 p104 q104
     cases e104
     replace hx104_0 := pb HB.out hx104_0
     replace hx104_1 := pb HB.out hx104_1
     replace hx104_2 := pb HB.out hx104_2
     replace hx104_3 := pb HB.out hx104_3
     replace hx104_4 := pb HB.out hx104_4
     replace p104 := eq_true p104
     replace q104 := eq_true q104
     go_wp2_with (first | (refine be_ 7 #[.string (⟨#[]⟩ : ByteArray), .int .i64 0, .int .i64 0, .int .i64 0, .int .i64 0] 32 ?_; intro gb105 hg w16 hbox hb; have n0_ := aa (Kd.R_below (zcaken HO_5.out) hb); have n1_ := aa (below_step zjjbob hb); have n2_ := aa (hbox); have n3_ := aa ((zkpfjp : w.heap.size ≤ gb105)); have n4_ := aa ((zkpfjp : w.heap.size ≤ gb105)); clear HO_5; clear HB; have HO_5 := n0_; have HB := n1_; have BK105 := n2_; have GW105 := n3_; have GE105 := n4_; clear n0_ n1_ n2_ n3_ n4_; clear hb hbox hg; obtain ⟨hcz17_0, hcz17_1, hcz17_2, hcz17_3, hcz17_4, hfz17_0, hfz17_1, hfz17_2, hfz17_3, hfz17_4⟩ := blk5_ BK105.out) | (refine gc_ Tryd.func37 (some 20) #[.string ((rd_T32 l0 x13_1).f0)] ?_; (with_reducible refine (impl_parted.calls k1 ((rd_T32 l0 x13_1).f0) t106 t107 _ A8.out).mono ?_); rintro e w18 ⟨rfl, hb⟩; refine ⟨_, rfl, ?_⟩; have n0_ := aa (Kd.R_below (by (with_reducible repeat (first | apply Kd.R_alloc | apply Kd.R_drewN | apply Kd.R_drew)); exact (Kd.R_mono (Kd.R_far (p := ⟨gb105, 4, none⟩) (Kd.R_far (p := ⟨gb105, 3, none⟩) (Kd.R_far (p := ⟨gb105, 2, none⟩) (Kd.R_far (p := ⟨gb105, 1, none⟩) (Kd.R_far (p := ⟨gb105, 0, none⟩) (Kd.R_types HO_5.out BK105.out (by decide)) (fun _ hk => hk.2) (.string ((rd_T32 l0 x13_1).f0))) (fun _ hk => hk.2) (.int .i64 ((rd_T32 l0 x13_1).f1))) (fun _ hk => hk.2) (.int .i64 ((rd_T32 l0 x13_1).f2))) (fun _ hk => hk.2) (.int .i64 ((rd_T32 l0 x13_1).f3))) (fun _ hk => hk.2) (.int .i64 ((rd_T32 l0 x13_1).f4))) (fun _ h_ => h_.1))) hb); have n1_ := aa (blk_below (g := gb105) (o := .cells #[.string ((rd_T32 l0 x13_1).f0), .int .i64 ((rd_T32 l0 x13_1).f1), .int .i64 ((rd_T32 l0 x13_1).f2), .int .i64 ((rd_T32 l0 x13_1).f3), .int .i64 ((rd_T32 l0 x13_1).f4)] 32 (0, 0)) zlbloi hb); have n2_ := aa (below_step zpeihn hb); clear HO_5; clear BK105; clear HB; have HO_5 := n0_; have BK105 := n1_; have HB := n2_; clear n0_ n1_ n2_; (try clear hb hk hi); obtain ⟨hcz19_0, hcz19_1, hcz19_2, hcz19_3, hcz19_4, hfz19_0, hfz19_1, hfz19_2, hfz19_3, hfz19_4⟩ := blk5_ BK105.out) | ((with_reducible refine gate_builtin (b := .append) (xs := #[.tmp 31, .tmp 33]) rfl ?_); at_builtin; refine Kd.R_append Kd.string (w0 := w) w.heap.size rfl (.tmp 31) (.tmp 33) 38 9 (.string ⟨#[]⟩) 16 rfl Tryd.underlying38 info9 rfl (by decide) (by omega) u5 x5_1 t107 [.string t107] (fun _ => True) (fun _ => False) rfl rfl ?aP (fun _ hk => hk.elim) ?aF ?aO ?aB ?aS ?aL ?_; (case aP => exact rfl); (case aB => exact zpeihn); (case aF => exact (fun _ _ => trivial)); (case aO => exact (zcaken HO_5.out)); (case aS => exact (below_size zpeihn)); (case aL => have := LMc15.out; omega); intro v109 w20 ho hb hg hat; rw [← Ny108.out] at ho; replace BK105 := aa (blk_grown (g := gb105) (o := .cells #[.string ((rd_T32 l0 x13_1).f0), .int .i64 ((rd_T32 l0 x13_1).f1), .int .i64 ((rd_T32 l0 x13_1).f2), .int .i64 ((rd_T32 l0 x13_1).f3), .int .i64 ((rd_T32 l0 x13_1).f4)] 32 (0, 0)) (zkjhpm BK105.out) hg (Kd.R_ne HO_5.out BK105.out (by decide))); replace HB := aa (hb); have HO110 := aa (ho); clear HO_5; clear ho hb hg hat))
     go_roundg k1
     case measure => have := HK1.out; omega
     case rel => exact ⟨(y108), (wrap64 (x13_1 + 1)), zagbkp, H', ⟨by have := HK1.out; omega⟩, ⟨zcaken HO110.out⟩, ⟨zpeihn⟩⟩
    have H' := aa H
    clear H
    have p104 : 0 ≤ (x13_1 : Int) := of_decide_eq_true zgglam
    have q104 : x13_1 < (l0.length : Int) := of_decide_eq_true zgglam
    obtain ⟨ad104, e104, hx104_0, hx104_1, hx104_2, hx104_3, hx104_4⟩ := at_T32 HR0.out x13_1 p104 q104
    cases e104
    replace hx104_0 := pb HB.out hx104_0
    replace hx104_1 := pb HB.out hx104_1
    replace hx104_2 := pb HB.out hx104_2
    replace hx104_3 := pb HB.out hx104_3
    replace hx104_4 := pb HB.out hx104_4
    replace p104 := eq_true p104
    replace q104 := eq_true q104
    go_wp2_with (first | (refine be_ 7 #[.string (⟨#[]⟩ : ByteArray), .int .i64 0, .int .i64 0, .int .i64 0, .int .i64 0] 32 ?_; intro gb105 hg w21 hbox hb; have n0_ := aa (Kd.R_below (zcaken HO_5.out) hb); have n1_ := aa (below_step zjjbob hb); have n2_ := aa (hbox); have n3_ := aa ((zkpfjp : w.heap.size ≤ gb105)); have n4_ := aa ((zkpfjp : w.heap.size ≤ gb105)); clear HO_5; clear HB; have HO_5 := n0_; have HB := n1_; have BK105 := n2_; have GW105 := n3_; have GE105 := n4_; clear n0_ n1_ n2_ n3_ n4_; clear hb hbox hg; obtain ⟨hcz22_0, hcz22_1, hcz22_2, hcz22_3, hcz22_4, hfz22_0, hfz22_1, hfz22_2, hfz22_3, hfz22_4⟩ := blk5_ BK105.out) | (refine gc_ Tryd.func37 (some 20) #[.string ((rd_T32 l0 x13_1).f0)] ?_; (with_reducible refine (impl_parted.calls k1 ((rd_T32 l0 x13_1).f0) t106 t107 _ A8.out).mono ?_); rintro e w23 ⟨rfl, hb⟩; refine ⟨_, rfl, ?_⟩; have n0_ := aa (Kd.R_below (by (with_reducible repeat (first | apply Kd.R_alloc | apply Kd.R_drewN | apply Kd.R_drew)); exact (Kd.R_mono (Kd.R_far (p := ⟨gb105, 4, none⟩) (Kd.R_far (p := ⟨gb105, 3, none⟩) (Kd.R_far (p := ⟨gb105, 2, none⟩) (Kd.R_far (p := ⟨gb105, 1, none⟩) (Kd.R_far (p := ⟨gb105, 0, none⟩) (Kd.R_types HO_5.out BK105.out (by decide)) (fun _ hk => hk.2) (.string ((rd_T32 l0 x13_1).f0))) (fun _ hk => hk.2) (.int .i64 ((rd_T32 l0 x13_1).f1))) (fun _ hk => hk.2) (.int .i64 ((rd_T32 l0 x13_1).f2))) (fun _ hk => hk.2) (.int .i64 ((rd_T32 l0 x13_1).f3))) (fun _ hk => hk.2) (.int .i64 ((rd_T32 l0 x13_1).f4))) (fun _ h_ => h_.1))) hb); have n1_ := aa (blk_below (g := gb105) (o := .cells #[.string ((rd_T32 l0 x13_1).f0), .int .i64 ((rd_T32 l0 x13_1).f1), .int .i64 ((rd_T32 l0 x13_1).f2), .int .i64 ((rd_T32 l0 x13_1).f3), .int .i64 ((rd_T32 l0 x13_1).f4)] 32 (0, 0)) zlbloi hb); have n2_ := aa (below_step zpeihn hb); clear HO_5; clear BK105; clear HB; have HO_5 := n0_; have BK105 := n1_; have HB := n2_; clear n0_ n1_ n2_; (try clear hb hk hi); obtain ⟨hcz24_0, hcz24_1, hcz24_2, hcz24_3, hcz24_4, hfz24_0, hfz24_1, hfz24_2, hfz24_3, hfz24_4⟩ := blk5_ BK105.out))
    go_roundg k1
    case measure => have := HK1.out; omega
    case rel => exact ⟨(x5_1), (wrap64 (x13_1 + 1)), zagbkp, H', ⟨by have := HK1.out; omega⟩, ⟨zcaken HO_5.out⟩, ⟨zpeihn⟩⟩
   ·
    obtain rfl := Option.some.inj H
    go_wp2
    go_ret
    exact ⟨_, zlhpib, zcaken HO_5.out, zjjbob⟩

end Go.Proofs.YtegggpipggniaaaDoor.Qa
