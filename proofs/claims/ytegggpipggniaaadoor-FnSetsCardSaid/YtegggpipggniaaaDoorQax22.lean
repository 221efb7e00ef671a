import Derived.Test.YtegggpipggniaaaDoorQax0
import Derived.Test.YtegggpipggniaaaDoorQax6
import Derived.Test.YtegggpipggniaaaDoorQax21
namespace Go.Proofs.YtegggpipggniaaaDoor.Qa
open Go.RowKit Go.Proofs.YtegggpipggniaaaDoorW.PrintWords Go.Proofs.YtegggpipggniaaaDoorW.PrintLast Go.Proofs.YtegggpipggniaaaDoorW.PrintMore
attribute [local go_sem] max2_int min2_int max_two min_two max_three min_three max_four min_four
set_option linter.unusedVariables false
set_option linter.unusedSimpArgs false
set_option maxHeartbeats 8000000
set_option maxRecDepth 100000

/-! ### impl_GetZ: function 11 -/
def impl_GetZ.f (k : Nat) (l0 : List (S32)) (a1 : ByteArray) : Option (Int × ByteArray × (List (S32))) := (impl_zCode.f k l0 a1).bind fun t102 => (if t102 = 0 then ((impl_find.f k l0 a1).bind fun bt103 => (if bt103.2 = true then (if 0 ≤ bt103.1 then (if bt103.1 < (l0.length : Int) then (some (0, (⟨#[]⟩ : ByteArray), (([(⟨(rd_T32 l0 bt103.1).f0, (rd_T32 l0 bt103.1).f1, (rd_T32 l0 bt103.1).f2, (rd_T32 l0 bt103.1).f3, (rd_T32 l0 bt103.1).f4⟩ : S32)] : List (S32))))) else (none)) else (none)) else (some (4, (⟨#[]⟩ : ByteArray), ([] : List (S32)))))) else (some (t102, (⟨#[]⟩ : ByteArray), ([] : List (S32)))))
theorem impl_GetZ.mono : ∀ a0 a1 k, LeO (impl_GetZ.f k a0 a1) (impl_GetZ.f (k + 1) a0 a1) := by
 intro a0 a1 k
 unfold impl_GetZ.f
 with_reducible repeat' first | exact impl_find.mono _ _ _ | exact impl_zCode.mono _ _ _ | exact LeO.refl _ | exact LeO.none _ | refine LeO.ite ?_ ?_ | refine LeO.bind ?_ (fun _ => ?_)
theorem impl_GetZ.calls (k : Nat) (A0 : Option Addr) (c0 : Nat) (l0 : List (S32)) (a1 : ByteArray) (r1 : Int) (r2 : ByteArray) (r3 : List (S32)) (w : World) (hr0 : Kd.C k32 w A0 l0.length l0) (hc0 : l0.length ≤ c0) (h : impl_GetZ.f k l0 a1 = some (r1, r2, r3)) :
  Calls Tryd.prog 11 #[.slice A0 l0.length c0, .string a1] w fun e w' => ∃ v2_ : Value, e = .returned (.agg #[.int .i64 r1, .string r2, v2_]) ∧ Kd.R k32 32 w' w.heap.size (fun _ => True) v2_ r3 ∧ Below w.heap.size w w' := by
 have hu28 := Tryd.underlying28
 have hu32 := Tryd.underlying32
 have HR0 := aa hr0
 have HC0 := aa hc0
 clear hr0 hc0
 have HB := aa (Below.refl w.heap.size w)
 have H : ((impl_zCode.f k l0 a1).bind fun t102 => (if t102 = 0 then ((impl_find.f k l0 a1).bind fun bt103 => (if bt103.2 = true then (if 0 ≤ bt103.1 then (if bt103.1 < (l0.length : Int) then (some (0, (⟨#[]⟩ : ByteArray), (([(⟨(rd_T32 l0 bt103.1).f0, (rd_T32 l0 bt103.1).f1, (rd_T32 l0 bt103.1).f2, (rd_T32 l0 bt103.1).f3, (rd_T32 l0 bt103.1).f4⟩ : S32)] : List (S32))))) else (none)) else (none)) else (some (4, (⟨#[]⟩ : ByteArray), ([] : List (S32)))))) else (some (t102, (⟨#[]⟩ : ByteArray), ([] : List (S32)))))) = some (r1, r2, r3) := h
 clear h
 revert H
 refine obs_ fun t102 A3 H => ?_
 revert H
 refine itE_ (fun c4b0 c4b1 H => ?_) fun c4b0 c4b1 H => ?_
 ·
  revert H
  refine ob2_ fun t103 t104 A5 H => ?_
  (try dsimp only at H)
  by_cases c6 : t104 = true
  ·
   subst c6
   rw [if_pos rfl] at H
   revert H
   refine itH_ fun c7b0 H => ?_
   revert H
   refine itH_ fun c8b0 H => ?_
   obtain ⟨y106, hy106⟩ : ∃ y_ : List (S32), y_ = (([(⟨(rd_T32 l0 t103).f0, (rd_T32 l0 t103).f1, (rd_T32 l0 t103).f2, (rd_T32 l0 t103).f3, (rd_T32 l0 t103).f4⟩ : S32)] : List (S32))) := ⟨_, rfl⟩
   replace H : (some (0, (⟨#[]⟩ : ByteArray), y106)) = some (r1, r2, r3) := by cases hy106; exact H
   have Ny106 := aa hy106
   clear hy106
   simp only [Option.some.injEq, Prod.mk.injEq] at H
   obtain ⟨rfl, rfl, rfl⟩ := H
   go_enter Tryd.func11, Tryd.ntmps11
   go_wp2_with (first | (refine be_ 4 #[.int .i64 0, .string (⟨#[]⟩ : ByteArray), .slice none 0 0] 28 ?_; intro gb101 hg w9 hbox hb; have n0_ := aa (below_step zjjbob hb); have n1_ := aa (hbox); have n2_ := aa ((zkpfjp : w.heap.size ≤ gb101)); have n3_ := aa ((zkpfjp : w.heap.size ≤ gb101)); clear HB; have HB := n0_; have BK101 := n1_; have GW101 := n2_; have GE101 := n3_; clear n0_ n1_ n2_ n3_; clear hb hbox hg) | (refine gc_ Tryd.func28 (some 10) #[.slice A0 l0.length c0, .string a1] ?_; (with_reducible refine (impl_zCode.calls k _ _ l0 a1 t102 _ zfmbgg HC0.out A3.out).mono ?_); rintro e w10 ⟨rfl, hb⟩; refine ⟨_, rfl, ?_⟩; replace BK101 := aa (bb_ BK101.out hb); replace HB := aa (below_step zkmbdh hb); (try clear hb hk hi)) | (refine gc_ Tryd.func29 (some 18) #[.slice A0 l0.length c0, .string a1] ?_; (with_reducible refine (impl_find.calls k _ _ l0 a1 t103 true _ zfmbgg HC0.out A5.out).mono ?_); rintro e w11 ⟨rfl, hb⟩; refine ⟨_, rfl, ?_⟩; replace BK101 := aa (bb_ BK101.out hb); replace HB := aa (below_step zkmbdh hb); (try clear hb hk hi); have p105 : 0 ≤ (t103 : Int) := of_decide_eq_true zgglam; have q105 : t103 < (l0.length : Int) := of_decide_eq_true zgglam; obtain ⟨ad105, e105, hx105_0, hx105_1, hx105_2, hx105_3, hx105_4⟩ := at_T32 HR0.out t103 p105 q105; cases e105; replace hx105_0 := pb HB.out hx105_0; replace hx105_1 := pb HB.out hx105_1; replace hx105_2 := pb HB.out hx105_2; replace hx105_3 := pb HB.out hx105_3; replace hx105_4 := pb HB.out hx105_4; replace p105 := eq_true p105; replace q105 := eq_true q105) | ((with_reducible refine gate_dst (N := 28) rfl ?_); refine Kd.R_lit k32 _ 32 ?hg (N := 28) ?hd (xs := ([(⟨(rd_T32 l0 t103).f0, (rd_T32 l0 t103).f1, (rd_T32 l0 t103).f2, (rd_T32 l0 t103).f3, (rd_T32 l0 t103).f4⟩ : S32)] : List (S32))) (inner := [.string ((rd_T32 l0 t103).f0), .int .i64 ((rd_T32 l0 t103).f1), .int .i64 ((rd_T32 l0 t103).f2), .int .i64 ((rd_T32 l0 t103).f3), .int .i64 ((rd_T32 l0 t103).f4)]) (ok := fun _ => True) (okp := fun _ => True) ?hr ?hp (fun _ hk => hk) trivial (Below.refl _ _) (Nat.le_refl _) (by simp) ?_; (case hd => rfl); (case hg => rfl); (case hr => exact zhlgcp); (case hp => exact (Reps.c5 (show Kd.M k32 _ _ _ (⟨(rd_T32 l0 t103).f0, (rd_T32 l0 t103).f1, (rd_T32 l0 t103).f2, (rd_T32 l0 t103).f3, (rd_T32 l0 t103).f4⟩ : S32) [.string ((rd_T32 l0 t103).f0), .int .i64 ((rd_T32 l0 t103).f1), .int .i64 ((rd_T32 l0 t103).f2), .int .i64 ((rd_T32 l0 t103).f3), .int .i64 ((rd_T32 l0 t103).f4)] from (k32_mkM _ _ _ (⟨(rd_T32 l0 t103).f0, (rd_T32 l0 t103).f1, (rd_T32 l0 t103).f2, (rd_T32 l0 t103).f3, (rd_T32 l0 t103).f4⟩ : S32) )) (Reps.none _ _))); intro v107 w12 ho13 hb hg_ hnew_; clear hg_ hnew_; (first | rw [← Ny106.out] at ho13 | (simp only [Int.reduceToNat] at ho13; rw [← Ny106.out] at ho13)); have HO108 := aa (Kd.R_lower ho13 (below_size zkmbdh)); replace BK101 := aa (bb_ BK101.out hb); replace HB := aa (below_step zkmbdh hb); clear hb ho13; obtain ⟨Ao14, co14, eo14⟩ := Kd.R_slice HO108.out; subst eo14; obtain ⟨hcz15_0, hcz15_1, hcz15_2, hfz15_0, hfz15_1, hfz15_2⟩ := blk3_ BK101.out))
   refine bodyPost_ret (results_cell_row rfl _ _ gb101 28 #[.int .i64 0, .string (⟨#[]⟩ : ByteArray), .slice Ao14 y106.length co14] (0, 0) _ rfl zkhiid Tryd.underlying28 rfl (by kernel_rfl)) rfl ?_
   exact ⟨_, zlhpib, by (with_reducible repeat (first | apply Kd.R_alloc | apply Kd.R_drewN | apply Kd.R_drew)); exact Kd.R_mono (Kd.R_far (p := ⟨gb101, 2, none⟩) (Kd.R_far (p := ⟨gb101, 1, none⟩) (Kd.R_far (p := ⟨gb101, 0, none⟩) (Kd.R_types HO108.out BK101.out (by decide)) (fun _ hk => hk.2) (.int .i64 0)) (fun _ hk => hk.2) (.string (⟨#[]⟩ : ByteArray))) (fun _ hk => hk.2) (.slice Ao14 y106.length co14)) (fun _ hk => trivial), zkmbdh⟩
  replace c6 := Bool.eq_false_iff.mpr c6
  subst c6
  rw [if_neg fT_] at H
  simp only [Option.some.injEq, Prod.mk.injEq] at H
  obtain ⟨rfl, rfl, rfl⟩ := H
  go_enter Tryd.func11, Tryd.ntmps11
  go_wp2_with (first | (refine be_ 4 #[.int .i64 0, .string (⟨#[]⟩ : ByteArray), .slice none 0 0] 28 ?_; intro gb101 hg w16 hbox hb; have n0_ := aa (below_step zjjbob hb); have n1_ := aa (hbox); have n2_ := aa ((zkpfjp : w.heap.size ≤ gb101)); have n3_ := aa ((zkpfjp : w.heap.size ≤ gb101)); clear HB; have HB := n0_; have BK101 := n1_; have GW101 := n2_; have GE101 := n3_; clear n0_ n1_ n2_ n3_; clear hb hbox hg) | (refine gc_ Tryd.func28 (some 10) #[.slice A0 l0.length c0, .string a1] ?_; (with_reducible refine (impl_zCode.calls k _ _ l0 a1 t102 _ zfmbgg HC0.out A3.out).mono ?_); rintro e w17 ⟨rfl, hb⟩; refine ⟨_, rfl, ?_⟩; replace BK101 := aa (bb_ BK101.out hb); replace HB := aa (below_step zkmbdh hb); (try clear hb hk hi)) | (refine gc_ Tryd.func29 (some 18) #[.slice A0 l0.length c0, .string a1] ?_; (with_reducible refine (impl_find.calls k _ _ l0 a1 t103 false _ zfmbgg HC0.out A5.out).mono ?_); rintro e w18 ⟨rfl, hb⟩; refine ⟨_, rfl, ?_⟩; replace BK101 := aa (bb_ BK101.out hb); replace HB := aa (below_step zkmbdh hb); (try clear hb hk hi); obtain ⟨hcz19_0, hcz19_1, hcz19_2, hfz19_0, hfz19_1, hfz19_2⟩ := blk3_ BK101.out))
  refine bodyPost_ret (results_cell_row rfl _ _ gb101 28 #[.int .i64 4, .string (⟨#[]⟩ : ByteArray), .slice none 0 0] (0, 0) _ rfl zcgheb Tryd.underlying28 rfl (by kernel_rfl)) rfl ?_
  exact ⟨_, zlhpib, zhijhk, zkmbdh⟩
 simp only [Option.some.injEq, Prod.mk.injEq] at H
 obtain ⟨rfl, rfl, rfl⟩ := H
 go_enter Tryd.func11, Tryd.ntmps11
 go_wp2_with (first | (refine be_ 4 #[.int .i64 0, .string (⟨#[]⟩ : ByteArray), .slice none 0 0] 28 ?_; intro gb101 hg w20 hbox hb; have n0_ := aa (below_step zjjbob hb); have n1_ := aa (hbox); have n2_ := aa ((zkpfjp : w.heap.size ≤ gb101)); have n3_ := aa ((zkpfjp : w.heap.size ≤ gb101)); clear HB; have HB := n0_; have BK101 := n1_; have GW101 := n2_; have GE101 := n3_; clear n0_ n1_ n2_ n3_; clear hb hbox hg) | (refine gc_ Tryd.func28 (some 10) #[.slice A0 l0.length c0, .string a1] ?_; (with_reducible refine (impl_zCode.calls k _ _ l0 a1 t102 _ zfmbgg HC0.out A3.out).mono ?_); rintro e w21 ⟨rfl, hb⟩; refine ⟨_, rfl, ?_⟩; replace BK101 := aa (bb_ BK101.out hb); replace HB := aa (below_step zkmbdh hb); (try clear hb hk hi); obtain ⟨hcz22_0, hcz22_1, hcz22_2, hfz22_0, hfz22_1, hfz22_2⟩ := blk3_ BK101.out))
 refine bodyPost_ret (results_cell_row rfl _ _ gb101 28 #[.int .i64 t102, .string (⟨#[]⟩ : ByteArray), .slice none 0 0] (0, 0) _ rfl zpdnbb Tryd.underlying28 rfl (by kernel_rfl)) rfl ?_
 exact ⟨_, zlhpib, zhijhk, zkmbdh⟩

end Go.Proofs.YtegggpipggniaaaDoor.Qa
