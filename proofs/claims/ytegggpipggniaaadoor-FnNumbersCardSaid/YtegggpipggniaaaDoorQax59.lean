import Derived.Test.YtegggpipggniaaaDoorQax0
import Derived.Test.YtegggpipggniaaaDoorQax6
import Derived.Test.YtegggpipggniaaaDoorQax21
import Derived.Test.YtegggpipggniaaaDoorQax55
import Derived.Test.YtegggpipggniaaaDoorQax56
import Derived.Test.YtegggpipggniaaaDoorQax57
import Derived.Test.YtegggpipggniaaaDoorQax58
namespace Go.Proofs.YtegggpipggniaaaDoor.Qa
open Go.RowKit Go.Proofs.YtegggpipggniaaaDoorW.PrintWords Go.Proofs.YtegggpipggniaaaDoorW.PrintLast Go.Proofs.YtegggpipggniaaaDoorW.PrintMore
attribute [local go_sem] max2_int min2_int max_two min_two max_three min_three max_four min_four
set_option linter.unusedVariables false
set_option linter.unusedSimpArgs false
set_option maxHeartbeats 8000000
set_option maxRecDepth 100000

/-! ### impl_DeleteZ: function 14 -/
def impl_DeleteZ.f (k : Nat) (l0 : List (S32)) (a1 : ByteArray) (a2 : Int) : Option (Int × ByteArray × (List (S32))) := (impl_zCode.f k l0 a1).bind fun t102 => (if t102 = 0 then ((impl_find.f k l0 a1).bind fun bt103 => (if a1.toList = ([47] : List UInt8) then (some (1, (⟨#[]⟩ : ByteArray), ([] : List (S32)))) else (if bt103.2 = true then (if 0 ≤ bt103.1 then (if bt103.1 < (l0.length : Int) then ((impl_isVersion.f a2 ((rd_T32 l0 bt103.1).f0) ((rd_T32 l0 bt103.1).f1) ((rd_T32 l0 bt103.1).f2) ((rd_T32 l0 bt103.1).f3) ((rd_T32 l0 bt103.1).f4)).bind fun t106 => (if t106 = true then ((impl_kids.f k l0 a1).bind fun t107 => (if (t107.length : Int) > 0 then (some (8, (⟨#[]⟩ : ByteArray), ([] : List (S32)))) else ((slices_Clone_impl_Znode_impl_Znode.f l0).bind fun t110 => ((slices_Delete_impl_Znode_impl_Znode.f t110 bt103.1 (wrap64 (bt103.1 + 1))).bind fun t113 => (some (0, (⟨#[]⟩ : ByteArray), t113)))))) else (some (7, (⟨#[]⟩ : ByteArray), ([] : List (S32)))))) else (none)) else (none)) else (some (4, (⟨#[]⟩ : ByteArray), ([] : List (S32))))))) else (some (t102, (⟨#[]⟩ : ByteArray), ([] : List (S32)))))
theorem impl_DeleteZ.mono : ∀ a0 a1 a2 k, LeO (impl_DeleteZ.f k a0 a1 a2) (impl_DeleteZ.f (k + 1) a0 a1 a2) := by
 intro a0 a1 a2 k
 unfold impl_DeleteZ.f
 with_reducible repeat' first | exact impl_find.mono _ _ _ | exact impl_kids.mono _ _ _ | exact impl_zCode.mono _ _ _ | exact LeO.refl _ | exact LeO.none _ | refine LeO.ite ?_ ?_ | refine LeO.bind ?_ (fun _ => ?_)
theorem impl_DeleteZ.calls (k : Nat) (A0 : Option Addr) (c0 : Nat) (l0 : List (S32)) (a1 : ByteArray) (a2 : Int) (r1 : Int) (r2 : ByteArray) (r3 : List (S32)) (w : World) (hr0 : Kd.C k32 w A0 l0.length l0) (hc0 : l0.length ≤ c0) (h : impl_DeleteZ.f k l0 a1 a2 = some (r1, r2, r3)) :
  Calls Tryd.prog 14 #[.slice A0 l0.length c0, .string a1, .int .i64 a2] w fun e w' => ∃ v2_ : Value, e = .returned (.agg #[.int .i64 r1, .string r2, v2_]) ∧ Kd.R k32 32 w' w.heap.size (fun _ => True) v2_ r3 ∧ Below w.heap.size w w' := by
 have hu28 := Tryd.underlying28
 have hu32 := Tryd.underlying32
 have HR0 := aa hr0
 have HC0 := aa hc0
 clear hr0 hc0
 have HB := aa (Below.refl w.heap.size w)
 have H : ((impl_zCode.f k l0 a1).bind fun t102 => (if t102 = 0 then ((impl_find.f k l0 a1).bind fun bt103 => (if a1.toList = ([47] : List UInt8) then (some (1, (⟨#[]⟩ : ByteArray), ([] : List (S32)))) else (if bt103.2 = true then (if 0 ≤ bt103.1 then (if bt103.1 < (l0.length : Int) then ((impl_isVersion.f a2 ((rd_T32 l0 bt103.1).f0) ((rd_T32 l0 bt103.1).f1) ((rd_T32 l0 bt103.1).f2) ((rd_T32 l0 bt103.1).f3) ((rd_T32 l0 bt103.1).f4)).bind fun t106 => (if t106 = true then ((impl_kids.f k l0 a1).bind fun t107 => (if (t107.length : Int) > 0 then (some (8, (⟨#[]⟩ : ByteArray), ([] : List (S32)))) else ((slices_Clone_impl_Znode_impl_Znode.f l0).bind fun t110 => ((slices_Delete_impl_Znode_impl_Znode.f t110 bt103.1 (wrap64 (bt103.1 + 1))).bind fun t113 => (some (0, (⟨#[]⟩ : ByteArray), t113)))))) else (some (7, (⟨#[]⟩ : ByteArray), ([] : List (S32)))))) else (none)) else (none)) else (some (4, (⟨#[]⟩ : ByteArray), ([] : List (S32))))))) else (some (t102, (⟨#[]⟩ : ByteArray), ([] : List (S32)))))) = some (r1, r2, r3) := h
 clear h
 revert H
 refine obs_ fun t102 A4 H => ?_
 revert H
 refine itE_ (fun c5b0 c5b1 H => ?_) fun c5b0 c5b1 H => ?_
 ·
  revert H
  refine ob2_ fun t103 t104 A6 H => ?_
  (try dsimp only at H)
  revert H
  refine itE_ (fun c7b0 c7b1 H => ?_) fun c7b0 c7b1 H => ?_
  ·
   simp only [Option.some.injEq, Prod.mk.injEq] at H
   obtain ⟨rfl, rfl, rfl⟩ := H
   go_enter Tryd.func14, Tryd.ntmps14
   go_wp2_with (first | (refine be_ 6 #[.int .i64 0, .string (⟨#[]⟩ : ByteArray), .slice none 0 0] 28 ?_; intro gb101 hg w8 hbox hb; have n0_ := aa (below_step zjjbob hb); have n1_ := aa (hbox); have n2_ := aa ((zkpfjp : w.heap.size ≤ gb101)); have n3_ := aa ((zkpfjp : w.heap.size ≤ gb101)); clear HB; have HB := n0_; have BK101 := n1_; have GW101 := n2_; have GE101 := n3_; clear n0_ n1_ n2_ n3_; clear hb hbox hg) | (refine gc_ Tryd.func28 (some 12) #[.slice A0 l0.length c0, .string a1] ?_; (with_reducible refine (impl_zCode.calls k _ _ l0 a1 t102 _ zfmbgg HC0.out A4.out).mono ?_); rintro e w9 ⟨rfl, hb⟩; refine ⟨_, rfl, ?_⟩; replace BK101 := aa (bb_ BK101.out hb); replace HB := aa (below_step zkmbdh hb); (try clear hb hk hi)) | (refine gc_ Tryd.func29 (some 20) #[.slice A0 l0.length c0, .string a1] ?_; (with_reducible refine (impl_find.calls k _ _ l0 a1 t103 t104 _ zfmbgg HC0.out A6.out).mono ?_); rintro e w10 ⟨rfl, hb⟩; refine ⟨_, rfl, ?_⟩; replace BK101 := aa (bb_ BK101.out hb); replace HB := aa (below_step zkmbdh hb); (try clear hb hk hi); obtain ⟨hcz11_0, hcz11_1, hcz11_2, hfz11_0, hfz11_1, hfz11_2⟩ := blk3_ BK101.out))
   refine bodyPost_ret (results_cell_row rfl _ _ gb101 28 #[.int .i64 1, .string (⟨#[]⟩ : ByteArray), .slice none 0 0] (0, 0) _ rfl zapacm Tryd.underlying28 rfl (by kernel_rfl)) rfl ?_
   exact ⟨_, zlhpib, zhijhk, zkmbdh⟩
  by_cases c12 : t104 = true
  ·
   subst c12
   rw [if_pos rfl] at H
   revert H
   refine itH_ fun c13b0 H => ?_
   revert H
   refine itH_ fun c14b0 H => ?_
   revert H
   refine obs_ fun t106 A15 H => ?_
   by_cases c16 : t106 = true
   ·
    subst c16
    rw [if_pos rfl] at H
    revert H
    refine obs_ fun t107 A17 H => ?_
    revert H
    refine itC_ (fun c18 H => ?_) fun c18 H => ?_
    ·
     have c18b0 : decide (0 < (t107.length : Int)) = true := decide_eq_true c18
     have c18b1 : decide (0 < t107.length) = true := decide_eq_true (by omega)
     clear c18
     simp only [Option.some.injEq, Prod.mk.injEq] at H
     obtain ⟨rfl, rfl, rfl⟩ := H
     go_enter Tryd.func14, Tryd.ntmps14
     go_wp2_with (first | (refine be_ 6 #[.int .i64 0, .string (⟨#[]⟩ : ByteArray), .slice none 0 0] 28 ?_; intro gb101 hg w19 hbox hb; have n0_ := aa (below_step zjjbob hb); have n1_ := aa (hbox); have n2_ := aa ((zkpfjp : w.heap.size ≤ gb101)); have n3_ := aa ((zkpfjp : w.heap.size ≤ gb101)); clear HB; have HB := n0_; have BK101 := n1_; have GW101 := n2_; have GE101 := n3_; clear n0_ n1_ n2_ n3_; clear hb hbox hg) | (refine gc_ Tryd.func28 (some 12) #[.slice A0 l0.length c0, .string a1] ?_; (with_reducible refine (impl_zCode.calls k _ _ l0 a1 t102 _ zfmbgg HC0.out A4.out).mono ?_); rintro e w20 ⟨rfl, hb⟩; refine ⟨_, rfl, ?_⟩; replace BK101 := aa (bb_ BK101.out hb); replace HB := aa (below_step zkmbdh hb); (try clear hb hk hi)) | (refine gc_ Tryd.func29 (some 20) #[.slice A0 l0.length c0, .string a1] ?_; (with_reducible refine (impl_find.calls k _ _ l0 a1 t103 true _ zfmbgg HC0.out A6.out).mono ?_); rintro e w21 ⟨rfl, hb⟩; refine ⟨_, rfl, ?_⟩; replace BK101 := aa (bb_ BK101.out hb); replace HB := aa (below_step zkmbdh hb); (try clear hb hk hi); have p105 : 0 ≤ (t103 : Int) := of_decide_eq_true zgglam; have q105 : t103 < (l0.length : Int) := of_decide_eq_true zgglam; obtain ⟨ad105, e105, hx105_0, hx105_1, hx105_2, hx105_3, hx105_4⟩ := at_T32 HR0.out t103 p105 q105; cases e105; replace hx105_0 := pb HB.out hx105_0; replace hx105_1 := pb HB.out hx105_1; replace hx105_2 := pb HB.out hx105_2; replace hx105_3 := pb HB.out hx105_3; replace hx105_4 := pb HB.out hx105_4; replace p105 := eq_true p105; replace q105 := eq_true q105) | (refine gc_ Tryd.func31 (some 37) #[.int .i64 a2, .agg #[.string ((rd_T32 l0 t103).f0), .int .i64 ((rd_T32 l0 t103).f1), .int .i64 ((rd_T32 l0 t103).f2), .int .i64 ((rd_T32 l0 t103).f3), .int .i64 ((rd_T32 l0 t103).f4)]] ?_; (with_reducible refine (impl_isVersion.calls a2 ((rd_T32 l0 t103).f0) ((rd_T32 l0 t103).f1) ((rd_T32 l0 t103).f2) ((rd_T32 l0 t103).f3) ((rd_T32 l0 t103).f4) true _ A15.out).mono ?_); rintro e w22 ⟨rfl, hb⟩; refine ⟨_, rfl, ?_⟩; replace BK101 := aa (bb_ BK101.out hb); replace HB := aa (below_step zkmbdh hb); (try clear hb hk hi)) | (refine gc_ Tryd.func39 (some 43) #[.slice (some ad105) l0.length c0, .string a1] ?_; (with_reducible refine (impl_kids.calls k _ _ l0 a1 t107 _ zfmbgg HC0.out A17.out).mono ?_); rintro e w23 ⟨v108, rfl, ho0, hb⟩; refine ⟨_, rfl, ?_⟩; have HO109 := aa (Kd.R_lower ho0 (below_size zkmbdh)); replace BK101 := aa (bb_ BK101.out hb); replace HB := aa (below_step zkmbdh hb); (try clear hb hk hi ho0); obtain ⟨Ao24, co24, eo24⟩ := Kd.R_slice HO109.out; subst eo24; obtain ⟨hcz25_0, hcz25_1, hcz25_2, hfz25_0, hfz25_1, hfz25_2⟩ := blk3_ BK101.out))
     refine bodyPost_ret (results_cell_row rfl _ _ gb101 28 #[.int .i64 8, .string (⟨#[]⟩ : ByteArray), .slice none 0 0] (0, 0) _ rfl zeoiik Tryd.underlying28 rfl (by kernel_rfl)) rfl ?_
     exact ⟨_, zlhpib, zhijhk, zkmbdh⟩
    have c18b0 : decide (0 < (t107.length : Int)) = false := decide_eq_false c18
    have c18b1 : decide (0 < t107.length) = false := decide_eq_false (by omega)
    clear c18
    revert H
    refine obs_ fun t110 A26 H => ?_
    revert H
    refine obs_ fun t113 A27 H => ?_
    simp only [Option.some.injEq, Prod.mk.injEq] at H
    obtain ⟨rfl, rfl, rfl⟩ := H
    go_enter Tryd.func14, Tryd.ntmps14
    go_wp2_with (first | (refine be_ 6 #[.int .i64 0, .string (⟨#[]⟩ : ByteArray), .slice none 0 0] 28 ?_; intro gb101 hg w28 hbox hb; have n0_ := aa (below_step zjjbob hb); have n1_ := aa (hbox); have n2_ := aa ((zkpfjp : w.heap.size ≤ gb101)); have n3_ := aa ((zkpfjp : w.heap.size ≤ gb101)); clear HB; have HB := n0_; have BK101 := n1_; have GW101 := n2_; have GE101 := n3_; clear n0_ n1_ n2_ n3_; clear hb hbox hg) | (refine gc_ Tryd.func28 (some 12) #[.slice A0 l0.length c0, .string a1] ?_; (with_reducible refine (impl_zCode.calls k _ _ l0 a1 t102 _ zfmbgg HC0.out A4.out).mono ?_); rintro e w29 ⟨rfl, hb⟩; refine ⟨_, rfl, ?_⟩; replace BK101 := aa (bb_ BK101.out hb); replace HB := aa (below_step zkmbdh hb); (try clear hb hk hi)) | (refine gc_ Tryd.func29 (some 20) #[.slice A0 l0.length c0, .string a1] ?_; (with_reducible refine (impl_find.calls k _ _ l0 a1 t103 true _ zfmbgg HC0.out A6.out).mono ?_); rintro e w30 ⟨rfl, hb⟩; refine ⟨_, rfl, ?_⟩; replace BK101 := aa (bb_ BK101.out hb); replace HB := aa (below_step zkmbdh hb); (try clear hb hk hi); have p105 : 0 ≤ (t103 : Int) := of_decide_eq_true zgglam; have q105 : t103 < (l0.length : Int) := of_decide_eq_true zgglam; obtain ⟨ad105, e105, hx105_0, hx105_1, hx105_2, hx105_3, hx105_4⟩ := at_T32 HR0.out t103 p105 q105; cases e105; replace hx105_0 := pb HB.out hx105_0; replace hx105_1 := pb HB.out hx105_1; replace hx105_2 := pb HB.out hx105_2; replace hx105_3 := pb HB.out hx105_3; replace hx105_4 := pb HB.out hx105_4; replace p105 := eq_true p105; replace q105 := eq_true q105) | (refine gc_ Tryd.func31 (some 37) #[.int .i64 a2, .agg #[.string ((rd_T32 l0 t103).f0), .int .i64 ((rd_T32 l0 t103).f1), .int .i64 ((rd_T32 l0 t103).f2), .int .i64 ((rd_T32 l0 t103).f3), .int .i64 ((rd_T32 l0 t103).f4)]] ?_; (with_reducible refine (impl_isVersion.calls a2 ((rd_T32 l0 t103).f0) ((rd_T32 l0 t103).f1) ((rd_T32 l0 t103).f2) ((rd_T32 l0 t103).f3) ((rd_T32 l0 t103).f4) true _ A15.out).mono ?_); rintro e w31 ⟨rfl, hb⟩; refine ⟨_, rfl, ?_⟩; replace BK101 := aa (bb_ BK101.out hb); replace HB := aa (below_step zkmbdh hb); (try clear hb hk hi)) | (refine gc_ Tryd.func39 (some 43) #[.slice (some ad105) l0.length c0, .string a1] ?_; (with_reducible refine (impl_kids.calls k _ _ l0 a1 t107 _ zfmbgg HC0.out A17.out).mono ?_); rintro e w32 ⟨v108, rfl, ho0, hb⟩; refine ⟨_, rfl, ?_⟩; have HO109 := aa (Kd.R_lower ho0 (below_size zkmbdh)); replace BK101 := aa (bb_ BK101.out hb); replace HB := aa (below_step zkmbdh hb); (try clear hb hk hi ho0); obtain ⟨Ao33, co33, eo33⟩ := Kd.R_slice HO109.out; subst eo33) | (refine gc_ Tryd.func32 (some 48) #[.slice (some ad105) l0.length c0] ?_; (with_reducible refine (slices_Clone_impl_Znode_impl_Znode.calls _ _ l0 t110 _ zfmbgg HC0.out A26.out).mono ?_); rintro e w34 ⟨v111, rfl, ho0, hb⟩; refine ⟨_, rfl, ?_⟩; replace HO109 := aa (Kd.R_below (zcaken HO109.out) hb); have HO112 := aa (Kd.R_lower ho0 (below_size zkmbdh)); replace BK101 := aa (bb_ BK101.out hb); replace HB := aa (below_step zkmbdh hb); (try clear hb hk hi ho0); obtain ⟨Ao35, co35, eo35⟩ := Kd.R_slice HO112.out; subst eo35) | (refine gc_ Tryd.func40 (some 52) #[.slice Ao35 t110.length co35, .int .i64 t103, .int .i64 (wrap64 (t103 + 1))] ?_; (with_reducible refine (slices_Delete_impl_Znode_impl_Znode.calls (fun k_ => some k_ = (.slice Ao35 t110.length co35 : Value).ownBlock) (.slice Ao35 t110.length co35) t110 t103 (wrap64 (t103 + 1)) t113 w _ ?side1 ?side2 A27.out).mono ?_); (case side1 => exact zkmbdh); (case side2 => exact Kd.R_tight rfl HO112.out); rintro e w36 ⟨v114, rfl, ho0, hb, hkp⟩; refine ⟨_, rfl, ?_⟩; replace BK101 := aa (blk_kept (zkjhpm BK101.out) hkp (fun hs_ => (fun e_ => (Kd.R_ne HO112.out BK101.out (by decide)) e_) hs_)); replace HO109 := aa (Kd.R_mono (ok' := fun k_ => True) (Kd.R_keptB ((Kd.R_apart' HO109.out (Kd.R_typed HO112.out) (by decide))) hkp (fun k_ hk_ hs_ => (hk_.2) hs_)) (fun k_ hk_ => trivial)); have HO115 := aa (Kd.R_mono (ok' := fun k_ => True) ho0 (fun k_ hk_ => trivial)); replace HB := aa (hb); clear HO112; (try clear hb hkp ho0); obtain ⟨Ao37, co37, eo37⟩ := Kd.R_slice HO115.out; subst eo37; obtain ⟨hcz38_0, hcz38_1, hcz38_2, hfz38_0, hfz38_1, hfz38_2⟩ := blk3_ BK101.out))
    refine bodyPost_ret (results_cell_row rfl _ _ gb101 28 #[.int .i64 0, .string (⟨#[]⟩ : ByteArray), .slice Ao37 t113.length co37] (0, 0) _ rfl zkhiid Tryd.underlying28 rfl (by kernel_rfl)) rfl ?_
    exact ⟨_, zlhpib, by (with_reducible repeat (first | apply Kd.R_alloc | apply Kd.R_drewN | apply Kd.R_drew)); exact Kd.R_mono (Kd.R_far (p := ⟨gb101, 2, none⟩) (Kd.R_far (p := ⟨gb101, 1, none⟩) (Kd.R_far (p := ⟨gb101, 0, none⟩) (Kd.R_types HO115.out BK101.out (by decide)) (fun _ hk => hk.2) (.int .i64 0)) (fun _ hk => hk.2) (.string (⟨#[]⟩ : ByteArray))) (fun _ hk => hk.2) (.slice Ao37 t113.length co37)) (fun _ hk => trivial), zkmbdh⟩
   replace c16 := Bool.eq_false_iff.mpr c16
   subst c16
   rw [if_neg fT_] at H
   simp only [Option.some.injEq, Prod.mk.injEq] at H
   obtain ⟨rfl, rfl, rfl⟩ := H
   go_enter Tryd.func14, Tryd.ntmps14
   go_wp2_with (first | (refine be_ 6 #[.int .i64 0, .string (⟨#[]⟩ : ByteArray), .slice none 0 0] 28 ?_; intro gb101 hg w39 hbox hb; have n0_ := aa (below_step zjjbob hb); have n1_ := aa (hbox); have n2_ := aa ((zkpfjp : w.heap.size ≤ gb101)); have n3_ := aa ((zkpfjp : w.heap.size ≤ gb101)); clear HB; have HB := n0_; have BK101 := n1_; have GW101 := n2_; have GE101 := n3_; clear n0_ n1_ n2_ n3_; clear hb hbox hg) | (refine gc_ Tryd.func28 (some 12) #[.slice A0 l0.length c0, .string a1] ?_; (with_reducible refine (impl_zCode.calls k _ _ l0 a1 t102 _ zfmbgg HC0.out A4.out).mono ?_); rintro e w40 ⟨rfl, hb⟩; refine ⟨_, rfl, ?_⟩; replace BK101 := aa (bb_ BK101.out hb); replace HB := aa (below_step zkmbdh hb); (try clear hb hk hi)) | (refine gc_ Tryd.func29 (some 20) #[.slice A0 l0.length c0, .string a1] ?_; (with_reducible refine (impl_find.calls k _ _ l0 a1 t103 true _ zfmbgg HC0.out A6.out).mono ?_); rintro e w41 ⟨rfl, hb⟩; refine ⟨_, rfl, ?_⟩; replace BK101 := aa (bb_ BK101.out hb); replace HB := aa (below_step zkmbdh hb); (try clear hb hk hi); have p105 : 0 ≤ (t103 : Int) := of_decide_eq_true zgglam; have q105 : t103 < (l0.length : Int) := of_decide_eq_true zgglam; obtain ⟨ad105, e105, hx105_0, hx105_1, hx105_2, hx105_3, hx105_4⟩ := at_T32 HR0.out t103 p105 q105; cases e105; replace hx105_0 := pb HB.out hx105_0; replace hx105_1 := pb HB.out hx105_1; replace hx105_2 := pb HB.out hx105_2; replace hx105_3 := pb HB.out hx105_3; replace hx105_4 := pb HB.out hx105_4; replace p105 := eq_true p105; replace q105 := eq_true q105) | (refine gc_ Tryd.func31 (some 37) #[.int .i64 a2, .agg #[.string ((rd_T32 l0 t103).f0), .int .i64 ((rd_T32 l0 t103).f1), .int .i64 ((rd_T32 l0 t103).f2), .int .i64 ((rd_T32 l0 t103).f3), .int .i64 ((rd_T32 l0 t103).f4)]] ?_; (with_reducible refine (impl_isVersion.calls a2 ((rd_T32 l0 t103).f0) ((rd_T32 l0 t103).f1) ((rd_T32 l0 t103).f2) ((rd_T32 l0 t103).f3) ((rd_T32 l0 t103).f4) false _ A15.out).mono ?_); rintro e w42 ⟨rfl, hb⟩; refine ⟨_, rfl, ?_⟩; replace BK101 := aa (bb_ BK101.out hb); replace HB := aa (below_step zkmbdh hb); (try clear hb hk hi); obtain ⟨hcz43_0, hcz43_1, hcz43_2, hfz43_0, hfz43_1, hfz43_2⟩ := blk3_ BK101.out))
   refine bodyPost_ret (results_cell_row rfl _ _ gb101 28 #[.int .i64 7, .string (⟨#[]⟩ : ByteArray), .slice none 0 0] (0, 0) _ rfl zmhibk Tryd.underlying28 rfl (by kernel_rfl)) rfl ?_
   exact ⟨_, zlhpib, zhijhk, zkmbdh⟩
  replace c12 := Bool.eq_false_iff.mpr c12
  subst c12
  rw [if_neg fT_] at H
  simp only [Option.some.injEq, Prod.mk.injEq] at H
  obtain ⟨rfl, rfl, rfl⟩ := H
  go_enter Tryd.func14, Tryd.ntmps14
  go_wp2_with (first | (refine be_ 6 #[.int .i64 0, .string (⟨#[]⟩ : ByteArray), .slice none 0 0] 28 ?_; intro gb101 hg w44 hbox hb; have n0_ := aa (below_step zjjbob hb); have n1_ := aa (hbox); have n2_ := aa ((zkpfjp : w.heap.size ≤ gb101)); have n3_ := aa ((zkpfjp : w.heap.size ≤ gb101)); clear HB; have HB := n0_; have BK101 := n1_; have GW101 := n2_; have GE101 := n3_; clear n0_ n1_ n2_ n3_; clear hb hbox hg) | (refine gc_ Tryd.func28 (some 12) #[.slice A0 l0.length c0, .string a1] ?_; (with_reducible refine (impl_zCode.calls k _ _ l0 a1 t102 _ zfmbgg HC0.out A4.out).mono ?_); rintro e w45 ⟨rfl, hb⟩; refine ⟨_, rfl, ?_⟩; replace BK101 := aa (bb_ BK101.out hb); replace HB := aa (below_step zkmbdh hb); (try clear hb hk hi)) | (refine gc_ Tryd.func29 (some 20) #[.slice A0 l0.length c0, .string a1] ?_; (with_reducible refine (impl_find.calls k _ _ l0 a1 t103 false _ zfmbgg HC0.out A6.out).mono ?_); rintro e w46 ⟨rfl, hb⟩; refine ⟨_, rfl, ?_⟩; replace BK101 := aa (bb_ BK101.out hb); replace HB := aa (below_step zkmbdh hb); (try clear hb hk hi); obtain ⟨hcz47_0, hcz47_1, hcz47_2, hfz47_0, hfz47_1, hfz47_2⟩ := blk3_ BK101.out))
  refine bodyPost_ret (results_cell_row rfl _ _ gb101 28 #[.int .i64 4, .string (⟨#[]⟩ : ByteArray), .slice none 0 0] (0, 0) _ rfl zcgheb Tryd.underlying28 rfl (by kernel_rfl)) rfl ?_
  exact ⟨_, zlhpib, zhijhk, zkmbdh⟩
 simp only [Option.some.injEq, Prod.mk.injEq] at H
 obtain ⟨rfl, rfl, rfl⟩ := H
 go_enter Tryd.func14, Tryd.ntmps14
 go_wp2_with (first | (refine be_ 6 #[.int .i64 0, .string (⟨#[]⟩ : ByteArray), .slice none 0 0] 28 ?_; intro gb101 hg w48 hbox hb; have n0_ := aa (below_step zjjbob hb); have n1_ := aa (hbox); have n2_ := aa ((zkpfjp : w.heap.size ≤ gb101)); have n3_ := aa ((zkpfjp : w.heap.size ≤ gb101)); clear HB; have HB := n0_; have BK101 := n1_; have GW101 := n2_; have GE101 := n3_; clear n0_ n1_ n2_ n3_; clear hb hbox hg) | (refine gc_ Tryd.func28 (some 12) #[.slice A0 l0.length c0, .string a1] ?_; (with_reducible refine (impl_zCode.calls k _ _ l0 a1 t102 _ zfmbgg HC0.out A4.out).mono ?_); rintro e w49 ⟨rfl, hb⟩; refine ⟨_, rfl, ?_⟩; replace BK101 := aa (bb_ BK101.out hb); replace HB := aa (below_step zkmbdh hb); (try clear hb hk hi); obtain ⟨hcz50_0, hcz50_1, hcz50_2, hfz50_0, hfz50_1, hfz50_2⟩ := blk3_ BK101.out))
 refine bodyPost_ret (results_cell_row rfl _ _ gb101 28 #[.int .i64 t102, .string (⟨#[]⟩ : ByteArray), .slice none 0 0] (0, 0) _ rfl zpdnbb Tryd.underlying28 rfl (by kernel_rfl)) rfl ?_
 exact ⟨_, zlhpib, zhijhk, zkmbdh⟩

end Go.Proofs.YtegggpipggniaaaDoor.Qa
