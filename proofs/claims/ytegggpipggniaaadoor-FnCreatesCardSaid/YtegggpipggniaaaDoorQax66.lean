import Derived.Test.YtegggpipggniaaaDoorQax0
import Derived.Test.YtegggpipggniaaaDoorQax6
import Derived.Test.YtegggpipggniaaaDoorQax8
import Derived.Test.YtegggpipggniaaaDoorQax9
import Derived.Test.YtegggpipggniaaaDoorQax15
import Derived.Test.YtegggpipggniaaaDoorQax19
import Derived.Test.YtegggpipggniaaaDoorQax21
import Derived.Test.YtegggpipggniaaaDoorQax56
import Derived.Test.YtegggpipggniaaaDoorQax63
import Derived.Test.YtegggpipggniaaaDoorQax64
import Derived.Test.YtegggpipggniaaaDoorQax65
namespace Go.Proofs.YtegggpipggniaaaDoor.Qa
open Go.RowKit Go.Proofs.YtegggpipggniaaaDoorW.PrintWords Go.Proofs.YtegggpipggniaaaDoorW.PrintLast Go.Proofs.YtegggpipggniaaaDoorW.PrintMore
attribute [local go_sem] max2_int min2_int max_two min_two max_three min_three max_four min_four
set_option linter.unusedVariables false
set_option linter.unusedSimpArgs false
set_option maxHeartbeats 8000000
set_option maxRecDepth 100000

/-! ### impl_CreateZ: function 16 -/
mutual
def impl_CreateZ.j0 : Nat → List (S32) → ByteArray → Int → Int → Bool → Bool → Option (Int × ByteArray × (List (S32)))
 | 0, _, _, _, _, _, _ => none
 | k + 1, x0, x1, x2, x3, x4, x28 => if x28 = true then (some (3, (⟨#[]⟩ : ByteArray), ([] : List (S32)))) else (if x1.toList = ([47] : List UInt8) then (some (1, (⟨#[]⟩ : ByteArray), ([] : List (S32)))) else ((impl_parted.f k x1).bind fun bt105 => ((impl_find.f k x0 bt105.1).bind fun bt107 => (if bt107.2 = true then (if 0 ≤ bt107.1 then (if bt107.1 < (x0.length : Int) then (if ((rd_T32 x0 bt107.1).f3) = 0 then ((slices_Clone_impl_Znode_impl_Znode.f x0).bind fun t110 => (if x4 = true then (if bt107.1 < (t110.length : Int) then (if ((rd_T32 t110 bt107.1).f4) = 100 then (some (3, (⟨#[]⟩ : ByteArray), ([] : List (S32)))) else ((impl_SeqName.f k bt105.2 ((rd_T32 t110 bt107.1).f4)).bind fun bt115 => (if bt115.1 = 0 then ((impl_joined.f bt105.1 bt115.2).bind fun t118 => ((impl_PathFault.f k t118).bind fun t119 => (if t119 = 0 then (impl_CreateZ.j1 k t118 x2 x3 (t110.set (bt107.1 : Int).toNat (⟨(rd_T32 t110 bt107.1).f0, (rd_T32 t110 bt107.1).f1, (rd_T32 t110 bt107.1).f2, (rd_T32 t110 bt107.1).f3, wrap64 (((rd_T32 t110 bt107.1).f4) + 1)⟩ : S32))) else (some (t119, (⟨#[]⟩ : ByteArray), ([] : List (S32))))))) else (some (bt115.1, (⟨#[]⟩ : ByteArray), ([] : List (S32))))))) else (none)) else (impl_CreateZ.j1 k x1 x2 x3 t110))) else (some (8, (⟨#[]⟩ : ByteArray), ([] : List (S32))))) else (none)) else (none)) else (some (4, (⟨#[]⟩ : ByteArray), ([] : List (S32))))))))
def impl_CreateZ.j1 : Nat → ByteArray → Int → Int → List (S32) → Option (Int × ByteArray × (List (S32)))
 | 0, _, _, _, _ => none
 | k + 1, x1, x2, x3, x16 => (impl_find.f k x16 x1).bind fun bt122 => (if bt122.2 = true then (some (6, (⟨#[]⟩ : ByteArray), ([] : List (S32)))) else (if (x16.length : Int) = 20 then (some (2, (⟨#[]⟩ : ByteArray), ([] : List (S32)))) else ((slices_Insert_impl_Znode_impl_Znode.f x16 bt122.1 (([(⟨x1, x2, 0, x3, 0⟩ : S32)] : List (S32)))).bind fun t127 => (some (0, x1, t127)))))
end
def impl_CreateZ.f (k : Nat) (l0 : List (S32)) (a1 : ByteArray) (a2 : Int) (a3 : Int) (a4 : Bool) : Option (Int × ByteArray × (List (S32))) := (impl_zCode.f k l0 a1).bind fun t102 => (if t102 = 0 then ((impl_isData.f a2).bind fun t103 => (if t103 = true then ((impl_isOwner.f a3).bind fun t104 => (impl_CreateZ.j0 k l0 a1 a2 a3 a4 (!t104))) else (impl_CreateZ.j0 k l0 a1 a2 a3 a4 true))) else (some (t102, (⟨#[]⟩ : ByteArray), ([] : List (S32)))))
theorem impl_CreateZ.mono_l : ∀ k, (∀ y0 y1 y2 y3 y4 y5, LeO (impl_CreateZ.j0 k y0 y1 y2 y3 y4 y5) (impl_CreateZ.j0 (k + 1) y0 y1 y2 y3 y4 y5)) ∧ (∀ y0 y1 y2 y3, LeO (impl_CreateZ.j1 k y0 y1 y2 y3) (impl_CreateZ.j1 (k + 1) y0 y1 y2 y3))
 | 0 => ⟨fun _ _ _ _ _ _ r h => by simp [impl_CreateZ.j0] at h, fun _ _ _ _ r h => by simp [impl_CreateZ.j1] at h⟩
 | k + 1 => by
  obtain ⟨ih0, ih1⟩ := impl_CreateZ.mono_l k
  refine ⟨?_, ?_⟩
  ·
   intro y0 y1 y2 y3 y4 y5
   unfold impl_CreateZ.j0
   with_reducible repeat' first | exact ih0 _ _ _ _ _ _ | exact ih1 _ _ _ _ | exact impl_PathFault.mono _ _ | exact impl_SeqName.mono _ _ _ | exact impl_find.mono _ _ _ | exact impl_parted.mono _ _ | exact impl_zCode.mono _ _ _ | exact LeO.refl _ | exact LeO.none _ | refine LeO.ite ?_ ?_ | refine LeO.bind ?_ (fun _ => ?_)
  ·
   intro y0 y1 y2 y3
   unfold impl_CreateZ.j1
   with_reducible repeat' first | exact ih0 _ _ _ _ _ _ | exact ih1 _ _ _ _ | exact impl_PathFault.mono _ _ | exact impl_SeqName.mono _ _ _ | exact impl_find.mono _ _ _ | exact impl_parted.mono _ _ | exact impl_zCode.mono _ _ _ | exact LeO.refl _ | exact LeO.none _ | refine LeO.ite ?_ ?_ | refine LeO.bind ?_ (fun _ => ?_)
theorem impl_CreateZ.mono : ∀ a0 a1 a2 a3 a4 k, LeO (impl_CreateZ.f k a0 a1 a2 a3 a4) (impl_CreateZ.f (k + 1) a0 a1 a2 a3 a4) := by
 intro a0 a1 a2 a3 a4 k
 obtain ⟨ih0, ih1⟩ := impl_CreateZ.mono_l k
 unfold impl_CreateZ.f
 with_reducible repeat' first | exact ih0 _ _ _ _ _ _ | exact ih1 _ _ _ _ | exact impl_PathFault.mono _ _ | exact impl_SeqName.mono _ _ _ | exact impl_find.mono _ _ _ | exact impl_parted.mono _ _ | exact impl_zCode.mono _ _ _ | exact LeO.refl _ | exact LeO.none _ | refine LeO.ite ?_ ?_ | refine LeO.bind ?_ (fun _ => ?_)
theorem impl_CreateZ.calls (k : Nat) (A0 : Option Addr) (c0 : Nat) (l0 : List (S32)) (a1 : ByteArray) (a2 : Int) (a3 : Int) (a4 : Bool) (r1 : Int) (r2 : ByteArray) (r3 : List (S32)) (w : World) (hr0 : Kd.C k32 w A0 l0.length l0) (hc0 : l0.length ≤ c0) (h : impl_CreateZ.f k l0 a1 a2 a3 a4 = some (r1, r2, r3)) :
  Calls Tryd.prog 16 #[.slice A0 l0.length c0, .string a1, .int .i64 a2, .int .i64 a3, .bool a4] w fun e w' => ∃ v2_ : Value, e = .returned (.agg #[.int .i64 r1, .string r2, v2_]) ∧ Kd.R k32 32 w' w.heap.size (fun _ => True) v2_ r3 ∧ Below w.heap.size w w' := by
 have hu28 := Tryd.underlying28
 have hu46 := Tryd.underlying46
 have hu32 := Tryd.underlying32
 have HR0 := aa hr0
 have HC0 := aa hc0
 clear hr0 hc0
 have HB := aa (Below.refl w.heap.size w)
 have H : ((impl_zCode.f k l0 a1).bind fun t102 => (if t102 = 0 then ((impl_isData.f a2).bind fun t103 => (if t103 = true then ((impl_isOwner.f a3).bind fun t104 => (impl_CreateZ.j0 k l0 a1 a2 a3 a4 (!t104))) else (impl_CreateZ.j0 k l0 a1 a2 a3 a4 true))) else (some (t102, (⟨#[]⟩ : ByteArray), ([] : List (S32)))))) = some (r1, r2, r3) := h
 clear h
 revert H
 refine obs_ fun t102 A6 H => ?_
 revert H
 refine itE_ (fun c7b0 c7b1 H => ?_) fun c7b0 c7b1 H => ?_
 ·
  have HC8 := aa H
  clear H
  go_enter Tryd.func16, Tryd.ntmps16
  go_upto_region 4 with (first | (refine be_ 10 #[.int .i64 0, .string (⟨#[]⟩ : ByteArray), .slice none 0 0] 28 ?_; intro gb101 hg w9 hbox hb; have n0_ := aa (below_step zjjbob hb); have n1_ := aa (hbox); have n2_ := aa ((zkpfjp : w.heap.size ≤ gb101)); have n3_ := aa ((zkpfjp : w.heap.size ≤ gb101)); clear HB; have HB := n0_; have BK101 := n1_; have GW101 := n2_; have GE101 := n3_; clear n0_ n1_ n2_ n3_; clear hb hbox hg) | (refine gc_ Tryd.func28 (some 23) #[.slice A0 l0.length c0, .string a1] ?_; (with_reducible refine (impl_zCode.calls k _ _ l0 a1 t102 _ zfmbgg HC0.out A6.out).mono ?_); rintro e w10 ⟨rfl, hb⟩; refine ⟨_, rfl, ?_⟩; replace BK101 := aa (bb_ BK101.out hb); replace HB := aa (below_step zkmbdh hb); (try clear hb hk hi)))
  (try simp only [Act.put, List.setIfInBounds_toArray, List.set_cons_zero, List.set_cons_succ])
  go_cut [28] (fun v28 wc => ∃ (kq : Nat) (x28_7 : Bool), v28 = .bool x28_7 ∧ Aside0 (impl_CreateZ.j0 kq l0 a1 a2 a3 a4 x28_7 = some (r1, r2, r3)) ∧ Aside0 (kq ≤ k) ∧ Aside0 (wc.heap[gb101]? = some (.cells #[.int .i64 0, .string (⟨#[]⟩ : ByteArray), (.slice none 0 0)] 28 (0, 0))) ∧ Aside0 (Below w.heap.size w wc))
  case first =>
   have H := HC8.out
   clear HC8
   revert H
   refine obs_ fun t103 A11 H => ?_
   by_cases c12 : t103 = true
   ·
    subst c12
    rw [if_pos rfl] at H
    revert H
    refine obs_ fun t104 A13 H => ?_
    have H' := aa H
    clear H
    go_wp2_with (first | (refine gc_ Tryd.func30 (some 30) #[.int .i64 a2] ?_; (with_reducible refine (impl_isData.calls a2 true _ A11.out).mono ?_); rintro e w' ⟨rfl, ⟨nd, rfl⟩⟩; refine ⟨_, rfl, ?_⟩) | (go_at_call 42; (with_reducible refine (impl_isOwner.calls a3 t104 _ A13.out).mono ?_); rintro e w' ⟨rfl, ⟨nd, rfl⟩⟩))
    go_meet
    case rel => exact ⟨_, (!t104), zagbkp, H', ⟨zpacfg⟩, ⟨zkjhpm BK101.out⟩, ⟨zkmbdh⟩⟩
   replace c12 := Bool.eq_false_iff.mpr c12
   subst c12
   rw [if_neg fT_] at H
   have H' := aa H
   clear H
   go_wp2_with (first | (refine gc_ Tryd.func30 (some 30) #[.int .i64 a2] ?_; (with_reducible refine (impl_isData.calls a2 false _ A11.out).mono ?_); rintro e w' ⟨rfl, ⟨nd, rfl⟩⟩; refine ⟨_, rfl, ?_⟩))
   go_meet
   case rel => exact ⟨_, (true), zagbkp, H', ⟨zpacfg⟩, ⟨zkjhpm BK101.out⟩, ⟨zkmbdh⟩⟩
  case rest =>
   clear HC8
   try clear p2
   try clear c7b0
   try clear c7b1
   try clear c12
   obtain ⟨kq, x28_7, rfl, HA, HJ7, BK101, HB⟩ := hcut
   cases kq with
   | zero => exact absurd HA.out (by simp [impl_CreateZ.j0])
   | succ kj7 =>
    have H := HA.out
    clear HA
    simp only [impl_CreateZ.j0] at H
    by_cases c14 : x28_7 = true
    ·
     subst c14
     rw [if_pos rfl] at H
     simp only [Option.some.injEq, Prod.mk.injEq] at H
     obtain ⟨rfl, rfl, rfl⟩ := H
     obtain ⟨hcz15_0, hcz15_1, hcz15_2, hfz15_0, hfz15_1, hfz15_2⟩ := blk3_ BK101.out
     go_wp2
     refine bodyPost_ret (results_cell_row rfl _ _ gb101 28 #[.int .i64 3, .string (⟨#[]⟩ : ByteArray), .slice none 0 0] (0, 0) _ rfl zdnlbm Tryd.underlying28 rfl (by kernel_rfl)) rfl ?_
     exact ⟨_, zlhpib, zhijhk, zkmbdh⟩
    ·
     replace c14 := Bool.eq_false_iff.mpr c14
     subst c14
     rw [if_neg fT_] at H
     revert H
     refine itE_ (fun c16b0 c16b1 H => ?_) fun c16b0 c16b1 H => ?_
     ·
      simp only [Option.some.injEq, Prod.mk.injEq] at H
      obtain ⟨rfl, rfl, rfl⟩ := H
      obtain ⟨hcz17_0, hcz17_1, hcz17_2, hfz17_0, hfz17_1, hfz17_2⟩ := blk3_ BK101.out
      go_wp2
      refine bodyPost_ret (results_cell_row rfl _ _ gb101 28 #[.int .i64 1, .string (⟨#[]⟩ : ByteArray), .slice none 0 0] (0, 0) _ rfl zapacm Tryd.underlying28 rfl (by kernel_rfl)) rfl ?_
      exact ⟨_, zlhpib, zhijhk, zkmbdh⟩
     revert H
     refine ob2_ fun t105 t106 A18 H => ?_
     (try dsimp only at H)
     revert H
     refine ob2_ fun t107 t108 A19 H => ?_
     (try dsimp only at H)
     by_cases c20 : t108 = true
     ·
      subst c20
      rw [if_pos rfl] at H
      revert H
      refine itH_ fun c21b0 H => ?_
      revert H
      refine itH_ fun c22b0 H => ?_
      revert H
      refine itE_ (fun c23b0 c23b1 H => ?_) fun c23b0 c23b1 H => ?_
      ·
       revert H
       refine obs_ fun t110 A24 H => ?_
       have HC25 := aa H
       clear H
       go_upto_if 67 with (first | (refine gc_ Tryd.func37 (some 44) #[.string a1] ?_; (with_reducible refine (impl_parted.calls kj7 a1 t105 t106 _ A18.out).mono ?_); rintro e w26 ⟨rfl, hb⟩; refine ⟨_, rfl, ?_⟩; replace BK101 := aa (bb_ BK101.out hb); replace HB := aa (below_step zkmbdh hb); (try clear hb hk hi)) | (refine gc_ Tryd.func29 (some 50) #[.slice A0 l0.length c0, .string t105] ?_; (with_reducible refine (impl_find.calls kj7 _ _ l0 t105 t107 true _ zfmbgg HC0.out A19.out).mono ?_); rintro e w27 ⟨rfl, hb⟩; refine ⟨_, rfl, ?_⟩; replace BK101 := aa (bb_ BK101.out hb); replace HB := aa (below_step zkmbdh hb); (try clear hb hk hi); have p109 : 0 ≤ (t107 : Int) := of_decide_eq_true zgglam; have q109 : t107 < (l0.length : Int) := of_decide_eq_true zgglam; obtain ⟨ad109, e109, hx109_0, hx109_1, hx109_2, hx109_3, hx109_4⟩ := at_T32 HR0.out t107 p109 q109; cases e109; replace hx109_0 := pb HB.out hx109_0; replace hx109_1 := pb HB.out hx109_1; replace hx109_2 := pb HB.out hx109_2; replace hx109_3 := pb HB.out hx109_3; replace hx109_4 := pb HB.out hx109_4; replace p109 := eq_true p109; replace q109 := eq_true q109) | (refine gc_ Tryd.func32 (some 66) #[.slice (some ad109) l0.length c0] ?_; (with_reducible refine (slices_Clone_impl_Znode_impl_Znode.calls _ _ l0 t110 _ zfmbgg HC0.out A24.out).mono ?_); rintro e w28 ⟨v111, rfl, ho0, hb⟩; refine ⟨_, rfl, ?_⟩; have HO112 := aa (Kd.R_lower ho0 (below_size zkmbdh)); replace BK101 := aa (bb_ BK101.out hb); replace HB := aa (below_step zkmbdh hb); (try clear hb hk hi ho0)))
       (try simp only [Act.put, List.setIfInBounds_toArray, List.set_cons_zero, List.set_cons_succ])
       go_cut [1] (fun v1 wc => ∃ (kq : Nat) (x1_24 : ByteArray) (x16_24 : List (S32)) (x102000_24 : Int) (x102001_24 : ByteArray), v1 = .string x1_24 ∧ Aside0 (impl_CreateZ.j1 kq x1_24 a2 a3 x16_24 = some (r1, r2, r3)) ∧ Aside0 (kq ≤ kj7) ∧ Aside0 (Kd.R k32 32 wc w.heap.size (fun _ => True) v111 x16_24) ∧ Aside0 (wc.heap[gb101]? = some (.cells #[.int .i64 x102000_24, .string x102001_24, (.slice none 0 0)] 28 (0, 0))) ∧ Aside0 (Below w.heap.size w wc))
       case first =>
        have H := HC25.out
        clear HC25
        by_cases c29 : a4 = true
        ·
         subst c29
         rw [if_pos rfl] at H
         revert H
         refine itH_ fun c30b0 H => ?_
         (first | rw [c30b0] | (simp only [i64_w, i32_w]; rw [c30b0]) | (simp only [c30b2, Bool.not_false, Bool.not_true]) | skip)
         revert H
         refine itE_ (fun c31b0 c31b1 H => ?_) fun c31b0 c31b1 H => ?_
         ·
          simp only [Option.some.injEq, Prod.mk.injEq] at H
          obtain ⟨rfl, rfl, rfl⟩ := H
          obtain ⟨Ao32, co32, eo32⟩ := Kd.R_slice HO112.out
          subst eo32
          have p113 : 0 ≤ (t107 : Int) := of_decide_eq_true zgglam
          have q113 : t107 < (t110.length : Int) := of_decide_eq_true zgglam
          obtain ⟨ad113, e113, hx113_0, hx113_1, hx113_2, hx113_3, hx113_4⟩ := at_T32 (Kd.R_reads' HO112.out).2.2 t107 p113 q113
          cases e113
          replace p113 := eq_true p113
          replace q113 := eq_true q113
          obtain ⟨hcz33_0, hcz33_1, hcz33_2, hfz33_0, hfz33_1, hfz33_2⟩ := blk3_ BK101.out
          go_wp2
          refine bodyPost_ret (results_cell_row rfl _ _ gb101 28 #[.int .i64 3, .string (⟨#[]⟩ : ByteArray), .slice none 0 0] (0, 0) _ rfl zdnlbm Tryd.underlying28 rfl (by kernel_rfl)) rfl ?_
          exact ⟨_, zlhpib, zhijhk, zkmbdh⟩
         revert H
         refine ob2_ fun t115 t116 A34 H => ?_
         (try dsimp only at H)
         revert H
         refine itE_ (fun c35b0 c35b1 H => ?_) fun c35b0 c35b1 H => ?_
         ·
          revert H
          refine obs_ fun t118 A36 H => ?_
          revert H
          refine obs_ fun t119 A37 H => ?_
          revert H
          refine itE_ (fun c38b0 c38b1 H => ?_) fun c38b0 c38b1 H => ?_
          ·
           obtain ⟨y121, hy121⟩ : ∃ y_ : List (S32), y_ = (t110.set (t107 : Int).toNat (⟨(rd_T32 t110 t107).f0, (rd_T32 t110 t107).f1, (rd_T32 t110 t107).f2, (rd_T32 t110 t107).f3, wrap64 (((rd_T32 t110 t107).f4) + 1)⟩ : S32)) := ⟨_, rfl⟩
           replace H : (impl_CreateZ.j1 kj7 t118 a2 a3 y121) = some (r1, r2, r3) := by cases hy121; exact H
           have Ny121 := aa hy121
           clear hy121
           have H' := aa H
           clear H
           obtain ⟨Ao40, co40, eo40⟩ := Kd.R_slice HO112.out
           subst eo40
           have p113 : 0 ≤ (t107 : Int) := of_decide_eq_true zgglam
           have q113 : t107 < (t110.length : Int) := of_decide_eq_true zgglam
           obtain ⟨ad113, e113, hx113_0, hx113_1, hx113_2, hx113_3, hx113_4⟩ := at_T32 (Kd.R_reads' HO112.out).2.2 t107 p113 q113
           cases e113
           replace p113 := eq_true p113
           replace q113 := eq_true q113
           have p114 : 0 ≤ (t107 : Int) := of_decide_eq_true zgglam
           have q114 : t107 < (t110.length : Int) := of_decide_eq_true zgglam
           obtain ⟨ad114, e114, hx114_0, hx114_1, hx114_2, hx114_3, hx114_4⟩ := at_T32 (Kd.R_reads' HO112.out).2.2 t107 p114 q114
           obtain rfl : ad113 = ad114 := (by injection e114)
           replace p114 := eq_true p114
           replace q114 := eq_true q114
           go_wp2_with (first | (refine gc_ Tryd.func23 (some 81) #[.string t106, .int .i64 ((rd_T32 t110 t107).f4)] ?_; (with_reducible refine (impl_SeqName.calls kj7 t106 ((rd_T32 t110 t107).f4) t115 t116 _ A34.out).mono ?_); rintro e w41 ⟨rfl, hb⟩; refine ⟨_, rfl, ?_⟩; replace HO112 := aa (Kd.R_below (zcaken HO112.out) hb); replace BK101 := aa (bb_ BK101.out hb); replace HB := aa (below_step zkmbdh hb); (try clear hb hk hi)) | (refine be_ 17 #[.int .i64 0, .string (⟨#[]⟩ : ByteArray)] 46 ?_; intro gb117 hg w42 hbox hb; have n0_ := aa (Kd.R_below (zcaken HO112.out) hb); have n1_ := aa (bb_ BK101.out hb); have n2_ := aa (below_step zkmbdh hb); have n3_ := aa (hbox); have n4_ := aa ((zmjkhl : w.heap.size ≤ gb117)); have n5_ := aa ((zmjkhl : w.heap.size ≤ gb117)); have n6_ := aa ((zmbojc : gb101 ≠ gb117)); have n7_ := aa ((zigkdk : gb117 ≠ gb101)); clear HO112; clear BK101; clear HB; have HO112 := n0_; have BK101 := n1_; have HB := n2_; have BK117 := n3_; have GW117 := n4_; have GE117 := n5_; have NB101_117 := n6_; have NB117_101 := n7_; clear n0_ n1_ n2_ n3_ n4_ n5_ n6_ n7_; clear hb hbox hg; have hnb43 := NB117_101.out; have hnc43 := NB101_117.out; obtain ⟨hcz44_0, hcz44_1, hfz44_0, hfz44_1⟩ := blk2_ BK117.out) | (refine gc_ Tryd.func43 (some 91) #[.string t105, .string t116] ?_; (with_reducible refine (impl_joined.calls t105 t116 t118 _ A36.out).mono ?_); rintro e w' ⟨rfl, ⟨nd, rfl⟩⟩; refine ⟨_, rfl, ?_⟩) | (refine gc_ Tryd.func44 (some 93) #[.string t118] ?_; (with_reducible refine (impl_PathFault.calls kj7 t118 t119 _ A37.out).mono ?_); rintro e w45 ⟨rfl, hb⟩; refine ⟨_, rfl, ?_⟩; have n0_ := aa (Kd.R_below (by (with_reducible repeat (first | apply Kd.R_alloc | apply Kd.R_drewN | apply Kd.R_drew)); exact (Kd.R_mono (Kd.R_far (p := ⟨gb117, 1, none⟩) (Kd.R_far (p := ⟨gb117, 0, none⟩) (Kd.R_types HO112.out BK117.out (by decide)) (fun _ hk => hk.2) (.int .i64 t115)) (fun _ hk => hk.2) (.string t116)) (fun _ h_ => h_.1))) hb); have n1_ := aa (blk_below (g := gb101) (o := .cells #[.int .i64 0, .string (⟨#[]⟩ : ByteArray), .slice none 0 0] 28 (0, 0)) zceggh hb); have n2_ := aa (blk_below (g := gb117) (o := .cells #[.int .i64 t115, .string t116] 46 (0, 0)) zdhpjj hb); have n3_ := aa (below_step zofhll hb); clear HO112; clear BK101; clear BK117; clear HB; have HO112 := n0_; have BK101 := n1_; have BK117 := n2_; have HB := n3_; clear n0_ n1_ n2_ n3_; (try clear hb hk hi); have p120 : 0 ≤ (t107 : Int) := of_decide_eq_true zgglam; have q120 : t107 < (t110.length : Int) := of_decide_eq_true zgglam; obtain ⟨ad120, e120, hx120_0, hx120_1, hx120_2, hx120_3, hx120_4⟩ := at_T32 (Kd.R_reads' HO112.out).2.2 t107 p120 q120; obtain rfl : ad113 = ad120 := (by injection e120); replace p120 := eq_true p120; replace q120 := eq_true q120; have p39 : 0 ≤ (t107 : Int) := of_decide_eq_true zgglam; have q39 : (t107 : Int) < ((t110.length : Int) : Int) := of_decide_eq_true zgglam; obtain ⟨go39, co39, eo39, gb39, gl39, cl39, HG39⟩ := Kd.R_form HO112.out (by omega); (first | cases eo39 | (injection eo39 with ea_ en_ ec_; (first | subst ea_ | (injection ea_ with ea_; subst ea_)); subst ec_; clear en_)); have GB39 := aa gb39; have GG39 := aa HG39; clear gb39 gl39 HG39; (first | simp only [add_plain] at hx113_0 | skip); (first | simp only [add_plain] at hx113_1 | skip); (first | simp only [add_plain] at hx113_2 | skip); (first | simp only [add_plain] at hx113_3 | skip); (first | simp only [add_plain] at hx113_4 | skip); (first | simp only [add_plain] at hx114_0 | skip); (first | simp only [add_plain] at hx114_1 | skip); (first | simp only [add_plain] at hx114_2 | skip); (first | simp only [add_plain] at hx114_3 | skip); (first | simp only [add_plain] at hx114_4 | skip); (first | simp only [add_plain] at hx120_0 | skip); (first | simp only [add_plain] at hx120_1 | skip); (first | simp only [add_plain] at hx120_2 | skip); (first | simp only [add_plain] at hx120_3 | skip); (first | simp only [add_plain] at hx120_4 | skip); obtain ⟨ce39, hcl39, hM39, hcc39, hfr39⟩ := Kd.R_elem HO112.out z32 (t107 : Int) p39 q39; obtain rfl := k32_openM hM39; have hx39_0 : w45.cell? ⟨go39, (t107 : Int).toNat * 5, none⟩ = some (.string ((rd_T32 t110 t107).f0)) := hcc39 0 _ rfl; have hx39_1 : w45.cell? ⟨go39, (t107 : Int).toNat * 5 + 1, none⟩ = some (.int .i64 ((rd_T32 t110 t107).f1)) := hcc39 1 _ rfl; have hx39_2 : w45.cell? ⟨go39, (t107 : Int).toNat * 5 + 2, none⟩ = some (.int .i64 ((rd_T32 t110 t107).f2)) := hcc39 2 _ rfl; have hx39_3 : w45.cell? ⟨go39, (t107 : Int).toNat * 5 + 3, none⟩ = some (.int .i64 ((rd_T32 t110 t107).f3)) := hcc39 3 _ rfl; have hx39_4 : w45.cell? ⟨go39, (t107 : Int).toNat * 5 + 4, none⟩ = some (.int .i64 ((rd_T32 t110 t107).f4)) := hcc39 4 _ rfl; have hf39_0 : w45.frozen? ⟨go39, (t107 : Int).toNat * 5, none⟩ = false := hfr39 0; have hf39_1 : w45.frozen? ⟨go39, (t107 : Int).toNat * 5 + 1, none⟩ = false := hfr39 1; have hf39_2 : w45.frozen? ⟨go39, (t107 : Int).toNat * 5 + 2, none⟩ = false := hfr39 2; have hf39_3 : w45.frozen? ⟨go39, (t107 : Int).toNat * 5 + 3, none⟩ = false := hfr39 3; have hf39_4 : w45.frozen? ⟨go39, (t107 : Int).toNat * 5 + 4, none⟩ = false := hfr39 4; clear hcl39 hcc39 hfr39 hM39; replace p39 := eq_true p39; replace q39 := eq_true q39; have HX46 := aa (show Kd.R k32 32 w45 w.heap.size (fun _ => True) (.slice (some ⟨go39, 0, none⟩) t110.length co40) t110 from (zcaken HO112.out)); obtain ⟨ce46, hcl46, hM46, hcc46, hfr46⟩ := Kd.R_elem HX46.out z32 (t107 : Int) (of_decide_eq_true zgglam) (by have h_ : (t107 : Int) < ((t110.length : Int) : Int) := of_decide_eq_true zgglam; first | exact h_ | (have e_ := (Kd.R_reads' HO112.out).1; omega) | simpa using h_); obtain rfl := k32_openM hM46; have HP46 := Kd.R_seg HX46.out (t107 : Int) (of_decide_eq_true zgglam) (by have h_ : (t107 : Int) < ((t110.length : Int) : Int) := of_decide_eq_true zgglam; first | exact h_ | (have e_ := (Kd.R_reads' HO112.out).1; omega) | simpa using h_) (seg := [.int .i64 (wrap64 (((rd_T32 t110 t107).f4) + 1))]) (j := 4) hcl46 hcc46 (show 5 ≤ 5 from by decide) (x' := (⟨(rd_T32 t110 t107).f0, (rd_T32 t110 t107).f1, (rd_T32 t110 t107).f2, (rd_T32 t110 t107).f3, wrap64 (((rd_T32 t110 t107).f4) + 1)⟩ : S32)) (k32_mkM _ _ _ (⟨(rd_T32 t110 t107).f0, (rd_T32 t110 t107).f1, (rd_T32 t110 t107).f2, (rd_T32 t110 t107).f3, wrap64 (((rd_T32 t110 t107).f4) + 1)⟩ : S32) ) (fun _ hk => hk); have hx46_4 := hcc46 4 _ rfl; (try simp only [show (k32).sz = 5 from rfl, Nat.mul_one, Nat.add_zero] at hx46_4); have hf46_4 := hfr46 4; (try simp only [show (k32).sz = 5 from rfl, Nat.mul_one, Nat.add_zero] at hf46_4); clear hcl46 hcc46 hfr46 hM46) | ((with_reducible refine gate_store (t := 2) (p := 105) rfl ?_); refine store_event (t := 2) (p := 105) (v := ?vo_w47) (w1 := (w45.setCell ⟨go39, (t107 : Int).toNat * 5 + 4, none⟩ (.int .i64 (wrap64 (((rd_T32 t110 t107).f4) + 1))))) ?hg ?ho ?hn ?hr ?_; (case ho => rfl); (case hg => rfl); (case hn => rfl); (case hr => exact zhlgcp); intro w47 hw; have hg : w45.grownBy w47 (some go39) := (by rw [hw]; exact HP46.2); have hp_ : Kd.R k32 32 w47 w.heap.size (fun _ => True) (.slice (some ⟨go39, 0, none⟩) t110.length co40) y121 := (by rw [hw, Ny121.out]; exact HP46.1); clear HP46; have n0_ := aa (blk_grown (g := gb101) (o := .cells #[.int .i64 0, .string (⟨#[]⟩ : ByteArray), .slice none 0 0] 28 (0, 0)) (zkjhpm BK101.out) hg (Kd.R_ne HO112.out BK101.out (by decide))); have n1_ := aa (hp_); have n2_ := aa (blk_grown (g := gb117) (o := .cells #[.int .i64 t115, .string t116] 46 (0, 0)) (zkjhpm BK117.out) hg (Kd.R_ne HO112.out BK117.out (by decide))); have n3_ := aa ((by rw [hw]; exact below_set (HB.out) GB39.out : Below w.heap.size w w47)); clear BK101; clear HO112; clear BK117; clear HB; have BK101 := n0_; have HO112 := n1_; have BK117 := n2_; have HB := n3_; clear n0_ n1_ n2_ n3_; clear hg hw hp_))
           go_meet
           case rel => exact ⟨_, (t118), (y121), (0), ((⟨#[]⟩ : ByteArray)), zagbkp, H', ⟨by have := HJ7.out; first | omega | exact Nat.le_refl _⟩, ⟨zcaken HO112.out⟩, ⟨zkjhpm BK101.out⟩, ⟨zofhll⟩⟩
          simp only [Option.some.injEq, Prod.mk.injEq] at H
          obtain ⟨rfl, rfl, rfl⟩ := H
          obtain ⟨Ao48, co48, eo48⟩ := Kd.R_slice HO112.out
          subst eo48
          have p113 : 0 ≤ (t107 : Int) := of_decide_eq_true zgglam
          have q113 : t107 < (t110.length : Int) := of_decide_eq_true zgglam
          obtain ⟨ad113, e113, hx113_0, hx113_1, hx113_2, hx113_3, hx113_4⟩ := at_T32 (Kd.R_reads' HO112.out).2.2 t107 p113 q113
          cases e113
          replace p113 := eq_true p113
          replace q113 := eq_true q113
          have p114 : 0 ≤ (t107 : Int) := of_decide_eq_true zgglam
          have q114 : t107 < (t110.length : Int) := of_decide_eq_true zgglam
          obtain ⟨ad114, e114, hx114_0, hx114_1, hx114_2, hx114_3, hx114_4⟩ := at_T32 (Kd.R_reads' HO112.out).2.2 t107 p114 q114
          obtain rfl : ad113 = ad114 := (by injection e114)
          replace p114 := eq_true p114
          replace q114 := eq_true q114
          go_wp2_with (first | (refine gc_ Tryd.func23 (some 81) #[.string t106, .int .i64 ((rd_T32 t110 t107).f4)] ?_; (with_reducible refine (impl_SeqName.calls kj7 t106 ((rd_T32 t110 t107).f4) t115 t116 _ A34.out).mono ?_); rintro e w49 ⟨rfl, hb⟩; refine ⟨_, rfl, ?_⟩; replace HO112 := aa (Kd.R_below (zcaken HO112.out) hb); replace BK101 := aa (bb_ BK101.out hb); replace HB := aa (below_step zkmbdh hb); (try clear hb hk hi)) | (refine be_ 17 #[.int .i64 0, .string (⟨#[]⟩ : ByteArray)] 46 ?_; intro gb117 hg w50 hbox hb; have n0_ := aa (Kd.R_below (zcaken HO112.out) hb); have n1_ := aa (bb_ BK101.out hb); have n2_ := aa (below_step zkmbdh hb); have n3_ := aa (hbox); have n4_ := aa ((zmjkhl : w.heap.size ≤ gb117)); have n5_ := aa ((zmjkhl : w.heap.size ≤ gb117)); have n6_ := aa ((zmbojc : gb101 ≠ gb117)); have n7_ := aa ((zigkdk : gb117 ≠ gb101)); clear HO112; clear BK101; clear HB; have HO112 := n0_; have BK101 := n1_; have HB := n2_; have BK117 := n3_; have GW117 := n4_; have GE117 := n5_; have NB101_117 := n6_; have NB117_101 := n7_; clear n0_ n1_ n2_ n3_ n4_ n5_ n6_ n7_; clear hb hbox hg; have hnb51 := NB117_101.out; have hnc51 := NB101_117.out; obtain ⟨hcz52_0, hcz52_1, hfz52_0, hfz52_1⟩ := blk2_ BK117.out) | (refine gc_ Tryd.func43 (some 91) #[.string t105, .string t116] ?_; (with_reducible refine (impl_joined.calls t105 t116 t118 _ A36.out).mono ?_); rintro e w' ⟨rfl, ⟨nd, rfl⟩⟩; refine ⟨_, rfl, ?_⟩) | (refine gc_ Tryd.func44 (some 93) #[.string t118] ?_; (with_reducible refine (impl_PathFault.calls kj7 t118 t119 _ A37.out).mono ?_); rintro e w53 ⟨rfl, hb⟩; refine ⟨_, rfl, ?_⟩; have n0_ := aa (Kd.R_below (by (with_reducible repeat (first | apply Kd.R_alloc | apply Kd.R_drewN | apply Kd.R_drew)); exact (Kd.R_mono (Kd.R_far (p := ⟨gb117, 1, none⟩) (Kd.R_far (p := ⟨gb117, 0, none⟩) (Kd.R_types HO112.out BK117.out (by decide)) (fun _ hk => hk.2) (.int .i64 t115)) (fun _ hk => hk.2) (.string t116)) (fun _ h_ => h_.1))) hb); have n1_ := aa (blk_below (g := gb101) (o := .cells #[.int .i64 0, .string (⟨#[]⟩ : ByteArray), .slice none 0 0] 28 (0, 0)) zceggh hb); have n2_ := aa (blk_below (g := gb117) (o := .cells #[.int .i64 t115, .string t116] 46 (0, 0)) zdhpjj hb); have n3_ := aa (below_step zofhll hb); clear HO112; clear BK101; clear BK117; clear HB; have HO112 := n0_; have BK101 := n1_; have BK117 := n2_; have HB := n3_; clear n0_ n1_ n2_ n3_; (try clear hb hk hi); obtain ⟨hcz54_0, hcz54_1, hcz54_2, hfz54_0, hfz54_1, hfz54_2⟩ := blk3_ BK101.out))
          refine bodyPost_ret (results_cell_row rfl _ _ gb101 28 #[.int .i64 t119, .string (⟨#[]⟩ : ByteArray), .slice none 0 0] (0, 0) _ rfl (by (with_reducible repeat (first | refine blk_drewN ?_ _ | refine blk_drew ?_ | refine blk_alloc ?_ _)); refine blk_put (cs := #[.int .i64 t119, .string (⟨#[]⟩ : ByteArray), .slice none 0 0]) ?_ 2 _ rfl; (with_reducible repeat (first | refine blk_drewN ?_ _ | refine blk_drew ?_ | refine blk_alloc ?_ _)); refine blk_put (cs := #[.int .i64 t119, .string (⟨#[]⟩ : ByteArray), .slice none 0 0]) ?_ 1 _ rfl; (with_reducible repeat (first | refine blk_drewN ?_ _ | refine blk_drew ?_ | refine blk_alloc ?_ _)); refine blk_put (cs := #[.int .i64 0, .string (⟨#[]⟩ : ByteArray), .slice none 0 0]) ?_ 0 _ rfl; (with_reducible repeat (first | refine blk_drewN ?_ _ | refine blk_drew ?_ | refine blk_alloc ?_ _)); exact BK101.out) Tryd.underlying28 rfl (by kernel_rfl)) rfl ?_
          exact ⟨_, zlhpib, zhijhk, zofhll⟩
         simp only [Option.some.injEq, Prod.mk.injEq] at H
         obtain ⟨rfl, rfl, rfl⟩ := H
         obtain ⟨Ao55, co55, eo55⟩ := Kd.R_slice HO112.out
         subst eo55
         have p113 : 0 ≤ (t107 : Int) := of_decide_eq_true zgglam
         have q113 : t107 < (t110.length : Int) := of_decide_eq_true zgglam
         obtain ⟨ad113, e113, hx113_0, hx113_1, hx113_2, hx113_3, hx113_4⟩ := at_T32 (Kd.R_reads' HO112.out).2.2 t107 p113 q113
         cases e113
         replace p113 := eq_true p113
         replace q113 := eq_true q113
         have p114 : 0 ≤ (t107 : Int) := of_decide_eq_true zgglam
         have q114 : t107 < (t110.length : Int) := of_decide_eq_true zgglam
         obtain ⟨ad114, e114, hx114_0, hx114_1, hx114_2, hx114_3, hx114_4⟩ := at_T32 (Kd.R_reads' HO112.out).2.2 t107 p114 q114
         obtain rfl : ad113 = ad114 := (by injection e114)
         replace p114 := eq_true p114
         replace q114 := eq_true q114
         go_wp2_with (first | (refine gc_ Tryd.func23 (some 81) #[.string t106, .int .i64 ((rd_T32 t110 t107).f4)] ?_; (with_reducible refine (impl_SeqName.calls kj7 t106 ((rd_T32 t110 t107).f4) t115 t116 _ A34.out).mono ?_); rintro e w56 ⟨rfl, hb⟩; refine ⟨_, rfl, ?_⟩; replace HO112 := aa (Kd.R_below (zcaken HO112.out) hb); replace BK101 := aa (bb_ BK101.out hb); replace HB := aa (below_step zkmbdh hb); (try clear hb hk hi)) | (refine be_ 17 #[.int .i64 0, .string (⟨#[]⟩ : ByteArray)] 46 ?_; intro gb117 hg w57 hbox hb; have n0_ := aa (Kd.R_below (zcaken HO112.out) hb); have n1_ := aa (bb_ BK101.out hb); have n2_ := aa (below_step zkmbdh hb); have n3_ := aa (hbox); have n4_ := aa ((zmjkhl : w.heap.size ≤ gb117)); have n5_ := aa ((zmjkhl : w.heap.size ≤ gb117)); have n6_ := aa ((zmbojc : gb101 ≠ gb117)); have n7_ := aa ((zigkdk : gb117 ≠ gb101)); clear HO112; clear BK101; clear HB; have HO112 := n0_; have BK101 := n1_; have HB := n2_; have BK117 := n3_; have GW117 := n4_; have GE117 := n5_; have NB101_117 := n6_; have NB117_101 := n7_; clear n0_ n1_ n2_ n3_ n4_ n5_ n6_ n7_; clear hb hbox hg; have hnb58 := NB117_101.out; have hnc58 := NB101_117.out; obtain ⟨hcz59_0, hcz59_1, hfz59_0, hfz59_1⟩ := blk2_ BK117.out; obtain ⟨hcz60_0, hcz60_1, hcz60_2, hfz60_0, hfz60_1, hfz60_2⟩ := blk3_ BK101.out))
         refine bodyPost_ret (results_cell_row rfl _ _ gb101 28 #[.int .i64 t115, .string (⟨#[]⟩ : ByteArray), .slice none 0 0] (0, 0) _ rfl (by (with_reducible repeat (first | refine blk_drewN ?_ _ | refine blk_drew ?_ | refine blk_alloc ?_ _)); refine blk_put (cs := #[.int .i64 t115, .string (⟨#[]⟩ : ByteArray), .slice none 0 0]) ?_ 2 _ rfl; (with_reducible repeat (first | refine blk_drewN ?_ _ | refine blk_drew ?_ | refine blk_alloc ?_ _)); refine blk_put (cs := #[.int .i64 t115, .string (⟨#[]⟩ : ByteArray), .slice none 0 0]) ?_ 1 _ rfl; (with_reducible repeat (first | refine blk_drewN ?_ _ | refine blk_drew ?_ | refine blk_alloc ?_ _)); refine blk_put (cs := #[.int .i64 0, .string (⟨#[]⟩ : ByteArray), .slice none 0 0]) ?_ 0 _ rfl; (with_reducible repeat (first | refine blk_drewN ?_ _ | refine blk_drew ?_ | refine blk_alloc ?_ _)); refine blk_far ?_ NB101_117.out _; (with_reducible repeat (first | refine blk_drewN ?_ _ | refine blk_drew ?_ | refine blk_alloc ?_ _)); refine blk_far ?_ NB101_117.out _; (with_reducible repeat (first | refine blk_drewN ?_ _ | refine blk_drew ?_ | refine blk_alloc ?_ _)); exact BK101.out) Tryd.underlying28 rfl (by kernel_rfl)) rfl ?_
         exact ⟨_, zlhpib, zhijhk, zofhll⟩
        replace c29 := Bool.eq_false_iff.mpr c29
        subst c29
        rw [if_neg fT_] at H
        have H' := aa H
        clear H
        go_wp2
        go_meet
        case rel => exact ⟨_, (a1), (t110), (0), ((⟨#[]⟩ : ByteArray)), zagbkp, H', ⟨by have := HJ7.out; first | omega | exact Nat.le_refl _⟩, ⟨zcaken HO112.out⟩, ⟨zkjhpm BK101.out⟩, ⟨zkmbdh⟩⟩
       case rest =>
        clear HC25
        try clear p1
        try clear q1
        try clear hx1
        try clear p2
        try clear p3
        try clear q3
        try clear hx3
        try clear hx4
        try clear c5
        try clear p6
        try clear c7b0
        try clear c7b1
        try clear p10
        try clear q10
        try clear hx10
        try clear p11
        try clear q11
        try clear hx11
        try clear c12
        try clear p12
        try clear q12
        try clear hx12
        try clear c14
        try clear c16b0
        try clear c16b1
        try clear c20
        try clear c21b0
        try clear c22b0
        try clear c23b0
        try clear c23b1
        try clear c29
        try clear c30b0
        try clear c30b2
        try clear c31b0
        try clear c31b1
        try clear c35b0
        try clear c35b1
        try clear c38b0
        try clear c38b1
        try clear p39
        try clear q39
        try clear hx39
        try clear hf39
        try clear hx46
        try clear hf46
        try clear hcz15_0
        try clear hcz15_1
        try clear hcz15_2
        try clear hcz17_0
        try clear hcz17_1
        try clear hcz17_2
        try clear hcz33_0
        try clear hcz33_1
        try clear hcz33_2
        try clear hcz44_0
        try clear hcz44_1
        try clear hcz52_0
        try clear hcz52_1
        try clear hcz54_0
        try clear hcz54_1
        try clear hcz54_2
        try clear hcz59_0
        try clear hcz59_1
        try clear hcz60_0
        try clear hcz60_1
        try clear hcz60_2
        try clear hfz15_0
        try clear hfz15_1
        try clear hfz15_2
        try clear hfz17_0
        try clear hfz17_1
        try clear hfz17_2
        try clear hfz33_0
        try clear hfz33_1
        try clear hfz33_2
        try clear hfz44_0
        try clear hfz44_1
        try clear hfz52_0
        try clear hfz52_1
        try clear hfz54_0
        try clear hfz54_1
        try clear hfz54_2
        try clear hfz59_0
        try clear hfz59_1
        try clear hfz60_0
        try clear hfz60_1
        try clear hfz60_2
        try clear hx109_0
        try clear hx109_1
        try clear hx109_2
        try clear hx109_3
        try clear hx109_4
        try clear hx113_0
        try clear hx113_1
        try clear hx113_2
        try clear hx113_3
        try clear hx113_4
        try clear hx114_0
        try clear hx114_1
        try clear hx114_2
        try clear hx114_3
        try clear hx114_4
        try clear hx120_0
        try clear hx120_1
        try clear hx120_2
        try clear hx120_3
        try clear hx120_4
        try clear hx39_0
        try clear hx39_1
        try clear hx39_2
        try clear hx39_3
        try clear hx39_4
        try clear hx46_4
        try clear p109
        try clear p113
        try clear p114
        try clear p120
        try clear p2
        try clear p39
        try clear q109
        try clear q113
        try clear q114
        try clear q120
        try clear q39
        obtain ⟨kq, x1_24, x16_24, x102000_24, x102001_24, rfl, HA, HJ24, HO_16, BK101, HB⟩ := hcut
        cases kq with
        | zero => exact absurd HA.out (by simp [impl_CreateZ.j1])
        | succ kj24 =>
         have H := HA.out
         clear HA
         simp only [impl_CreateZ.j1] at H
         revert H
         refine ob2_ fun t122 t123 A61 H => ?_
         (try dsimp only at H)
         by_cases c62 : t123 = true
         ·
          subst c62
          rw [if_pos rfl] at H
          simp only [Option.some.injEq, Prod.mk.injEq] at H
          obtain ⟨rfl, rfl, rfl⟩ := H
          obtain ⟨Ao63, co63, eo63⟩ := Kd.R_slice HO_16.out
          subst eo63
          go_wp2_with (first | (refine gc_ Tryd.func29 (some 109) #[.slice Ao63 x16_24.length co63, .string x1_24] ?_; (with_reducible refine (impl_find.calls kj24 _ _ x16_24 x1_24 t122 true _ ?side1 ?side2 A61.out).mono ?_); (case side1 => exact zbacae); (case side2 => exact (Kd.R_reads' HO_16.out).2.1); rintro e w64 ⟨rfl, hb⟩; refine ⟨_, rfl, ?_⟩; replace HO_16 := aa (Kd.R_below (zcaken HO_16.out) hb); replace BK101 := aa (bb_ BK101.out hb); replace HB := aa (below_step zkmbdh hb); (try clear hb hk hi); obtain ⟨hcz65_0, hcz65_1, hcz65_2, hfz65_0, hfz65_1, hfz65_2⟩ := blk3_ BK101.out))
          refine bodyPost_ret (results_cell_row rfl _ _ gb101 28 #[.int .i64 6, .string (⟨#[]⟩ : ByteArray), .slice none 0 0] (0, 0) _ rfl (by (with_reducible repeat (first | refine blk_drewN ?_ _ | refine blk_drew ?_ | refine blk_alloc ?_ _)); refine blk_put (cs := #[.int .i64 6, .string (⟨#[]⟩ : ByteArray), .slice none 0 0]) ?_ 2 _ rfl; (with_reducible repeat (first | refine blk_drewN ?_ _ | refine blk_drew ?_ | refine blk_alloc ?_ _)); refine blk_put (cs := #[.int .i64 6, .string x102001_24, .slice none 0 0]) ?_ 1 _ rfl; (with_reducible repeat (first | refine blk_drewN ?_ _ | refine blk_drew ?_ | refine blk_alloc ?_ _)); refine blk_put (cs := #[.int .i64 x102000_24, .string x102001_24, .slice none 0 0]) ?_ 0 _ rfl; (with_reducible repeat (first | refine blk_drewN ?_ _ | refine blk_drew ?_ | refine blk_alloc ?_ _)); exact BK101.out) Tryd.underlying28 rfl (by kernel_rfl)) rfl ?_
          exact ⟨_, zlhpib, zhijhk, zkmbdh⟩
         ·
          replace c62 := Bool.eq_false_iff.mpr c62
          subst c62
          rw [if_neg fT_] at H
          revert H
          refine itE_ (fun c66b0 c66b1 H => ?_) fun c66b0 c66b1 H => ?_
          ·
           simp only [Option.some.injEq, Prod.mk.injEq] at H
           obtain ⟨rfl, rfl, rfl⟩ := H
           obtain ⟨Ao67, co67, eo67⟩ := Kd.R_slice HO_16.out
           subst eo67
           go_wp2_with (first | (refine gc_ Tryd.func29 (some 109) #[.slice Ao67 x16_24.length co67, .string x1_24] ?_; (with_reducible refine (impl_find.calls kj24 _ _ x16_24 x1_24 t122 false _ ?side1 ?side2 A61.out).mono ?_); (case side1 => exact zbacae); (case side2 => exact (Kd.R_reads' HO_16.out).2.1); rintro e w68 ⟨rfl, hb⟩; refine ⟨_, rfl, ?_⟩; replace HO_16 := aa (Kd.R_below (zcaken HO_16.out) hb); replace BK101 := aa (bb_ BK101.out hb); replace HB := aa (below_step zkmbdh hb); (try clear hb hk hi); obtain ⟨hcz69_0, hcz69_1, hcz69_2, hfz69_0, hfz69_1, hfz69_2⟩ := blk3_ BK101.out))
           refine bodyPost_ret (results_cell_row rfl _ _ gb101 28 #[.int .i64 2, .string (⟨#[]⟩ : ByteArray), .slice none 0 0] (0, 0) _ rfl (by (with_reducible repeat (first | refine blk_drewN ?_ _ | refine blk_drew ?_ | refine blk_alloc ?_ _)); refine blk_put (cs := #[.int .i64 2, .string (⟨#[]⟩ : ByteArray), .slice none 0 0]) ?_ 2 _ rfl; (with_reducible repeat (first | refine blk_drewN ?_ _ | refine blk_drew ?_ | refine blk_alloc ?_ _)); refine blk_put (cs := #[.int .i64 2, .string x102001_24, .slice none 0 0]) ?_ 1 _ rfl; (with_reducible repeat (first | refine blk_drewN ?_ _ | refine blk_drew ?_ | refine blk_alloc ?_ _)); refine blk_put (cs := #[.int .i64 x102000_24, .string x102001_24, .slice none 0 0]) ?_ 0 _ rfl; (with_reducible repeat (first | refine blk_drewN ?_ _ | refine blk_drew ?_ | refine blk_alloc ?_ _)); exact BK101.out) Tryd.underlying28 rfl (by kernel_rfl)) rfl ?_
           exact ⟨_, zlhpib, zhijhk, zkmbdh⟩
          obtain ⟨y124, hy124⟩ : ∃ y_ : List (S32), y_ = (([(⟨x1_24, a2, 0, a3, 0⟩ : S32)] : List (S32))) := ⟨_, rfl⟩
          replace H : ((slices_Insert_impl_Znode_impl_Znode.f x16_24 t122 y124).bind fun t127 => (some (0, x1_24, t127))) = some (r1, r2, r3) := by cases hy124; exact H
          have Ny124 := aa hy124
          clear hy124
          revert H
          refine obs_ fun t127 A70 H => ?_
          simp only [Option.some.injEq, Prod.mk.injEq] at H
          obtain ⟨rfl, rfl, rfl⟩ := H
          obtain ⟨Ao71, co71, eo71⟩ := Kd.R_slice HO_16.out
          subst eo71
          go_wp2_with (first | (refine gc_ Tryd.func29 (some 109) #[.slice Ao71 x16_24.length co71, .string x1_24] ?_; (with_reducible refine (impl_find.calls kj24 _ _ x16_24 x1_24 t122 false _ ?side1 ?side2 A61.out).mono ?_); (case side1 => exact zbacae); (case side2 => exact (Kd.R_reads' HO_16.out).2.1); rintro e w72 ⟨rfl, hb⟩; refine ⟨_, rfl, ?_⟩; replace HO_16 := aa (Kd.R_below (zcaken HO_16.out) hb); replace BK101 := aa (bb_ BK101.out hb); replace HB := aa (below_step zkmbdh hb); (try clear hb hk hi)) | ((with_reducible refine gate_dst (N := 127) rfl ?_); refine Kd.R_lit k32 _ 32 ?hg (N := 127) ?hd (xs := ([(⟨x1_24, a2, 0, a3, 0⟩ : S32)] : List (S32))) (inner := [.string x1_24, .int .i64 a2, .int .i64 0, .int .i64 a3, .int .i64 0]) (ok := fun _ => True) (okp := fun _ => True) ?hr ?hp (fun _ hk => hk) trivial (Below.refl _ _) (Nat.le_refl _) (by simp) ?_; (case hd => rfl); (case hg => rfl); (case hr => exact zhlgcp); (case hp => exact (Reps.c5 (show Kd.M k32 _ _ _ (⟨x1_24, a2, 0, a3, 0⟩ : S32) [.string x1_24, .int .i64 a2, .int .i64 0, .int .i64 a3, .int .i64 0] from (k32_mkM _ _ _ (⟨x1_24, a2, 0, a3, 0⟩ : S32) )) (Reps.none _ _))); intro v125 w73 ho74 hb hg_ hnew_; clear hg_ hnew_; (first | rw [← Ny124.out] at ho74 | (simp only [Int.reduceToNat] at ho74; rw [← Ny124.out] at ho74)); have n0_ := aa (Kd.R_elder' (zcaken HO_16.out) (Kd.R_base ho74) hb); have n1_ := aa (Kd.R_lower (Kd.R_new' ho74 (Kd.R_lt (zcaken HO_16.out))) (below_size zkmbdh)); have n2_ := aa (bb_ BK101.out hb); have n3_ := aa (below_step zkmbdh hb); clear HO_16; clear BK101; clear HB; have HO_16 := n0_; have HO126 := n1_; have BK101 := n2_; have HB := n3_; clear n0_ n1_ n2_ n3_; clear hb ho74; obtain ⟨Ao75, co75, eo75⟩ := Kd.R_slice HO126.out; subst eo75) | (refine gc_ Tryd.func45 (some 128) #[.slice Ao71 x16_24.length co71, .int .i64 t122, .slice Ao75 y124.length co75] ?_; (with_reducible refine (slices_Insert_impl_Znode_impl_Znode.calls (fun k_ => some k_ = (.slice Ao71 x16_24.length co71 : Value).ownBlock) (.slice Ao71 x16_24.length co71) x16_24 t122 _ _ y124 t127 w _ ?side1 ?side2 ?side3 ?side4 ?sidex A70.out).mono ?_); (case side1 => exact zkmbdh); (case side2 => exact Kd.R_tight rfl HO_16.out); (case side3 => exact Kd.C_kept_own (HO126.out) (fun k_ hk_ hs_ => (hk_.2) hs_)); (case side4 => exact (Kd.R_reads' HO126.out).2.1); (case sidex => exact Go.Proofs.YtegggpipggniaaaDoor.Raw.own_plain (zcaken HO126.out)); rintro e w76 ⟨v128, rfl, ho0, hb, hkp⟩; refine ⟨_, rfl, ?_⟩; have n0_ := aa (blk_kept (zkjhpm BK101.out) hkp (fun hs_ => (fun e_ => (Kd.R_ne HO_16.out BK101.out (by decide)) e_) hs_)); have n1_ := aa (Kd.R_mono (ok' := fun k_ => some k_ ≠ (v128 : Value).ownBlock) (Kd.R_keptB (HO126.out) hkp (fun k_ hk_ hs_ => (hk_.2) hs_)) (fun k_ hk_ => fun e_ => Or.elim (ho0.1 k_ e_.symm) (fun hs_ => hk_.2.1 hs_) (fun hn_ => Nat.not_le.2 hk_.2.2 hn_))); have n2_ := aa (Kd.R_mono (ok' := fun k_ => some k_ ≠ (.slice Ao75 y124.length co75 : Value).ownBlock) ho0 (fun k_ hk_ => Or.elim hk_ (fun hs_ => fun e_ => (((HO126.out).1 k_ e_.symm).2) hs_) (fun hn_ => (Kd.fresh' (Kd.R_lt (zcaken HO126.out)) k_ hn_)))); have n3_ := aa (hb); clear BK101; clear HO126; clear HB; clear HO_16; have BK101 := n0_; have HO126 := n1_; have HO129 := n2_; have HB := n3_; clear n0_ n1_ n2_ n3_; (try clear hb hkp ho0); obtain ⟨Ao77, co77, eo77⟩ := Kd.R_slice HO129.out; subst eo77; obtain ⟨hcz78_0, hcz78_1, hcz78_2, hfz78_0, hfz78_1, hfz78_2⟩ := blk3_ BK101.out))
          refine bodyPost_ret (results_cell_row rfl _ _ gb101 28 #[.int .i64 0, .string x1_24, .slice Ao77 t127.length co77] (0, 0) _ rfl (by (with_reducible repeat (first | refine blk_drewN ?_ _ | refine blk_drew ?_ | refine blk_alloc ?_ _)); refine blk_put (cs := #[.int .i64 0, .string x1_24, .slice none 0 0]) ?_ 2 _ rfl; (with_reducible repeat (first | refine blk_drewN ?_ _ | refine blk_drew ?_ | refine blk_alloc ?_ _)); refine blk_put (cs := #[.int .i64 0, .string x102001_24, .slice none 0 0]) ?_ 1 _ rfl; (with_reducible repeat (first | refine blk_drewN ?_ _ | refine blk_drew ?_ | refine blk_alloc ?_ _)); refine blk_put (cs := #[.int .i64 x102000_24, .string x102001_24, .slice none 0 0]) ?_ 0 _ rfl; (with_reducible repeat (first | refine blk_drewN ?_ _ | refine blk_drew ?_ | refine blk_alloc ?_ _)); exact BK101.out) Tryd.underlying28 rfl (by kernel_rfl)) rfl ?_
          exact ⟨_, zlhpib, by (with_reducible repeat (first | apply Kd.R_alloc | apply Kd.R_drewN | apply Kd.R_drew)); exact Kd.R_mono (Kd.R_far (p := ⟨gb101, 2, none⟩) (Kd.R_far (p := ⟨gb101, 1, none⟩) (Kd.R_far (p := ⟨gb101, 0, none⟩) (Kd.R_types HO129.out BK101.out (by decide)) (fun _ hk => hk.2) (.int .i64 0)) (fun _ hk => hk.2) (.string x1_24)) (fun _ hk => hk.2) (.slice Ao77 t127.length co77)) (fun _ hk => trivial), zkmbdh⟩
      simp only [Option.some.injEq, Prod.mk.injEq] at H
      obtain ⟨rfl, rfl, rfl⟩ := H
      go_wp2_with (first | (refine gc_ Tryd.func37 (some 44) #[.string a1] ?_; (with_reducible refine (impl_parted.calls kj7 a1 t105 t106 _ A18.out).mono ?_); rintro e w79 ⟨rfl, hb⟩; refine ⟨_, rfl, ?_⟩; replace BK101 := aa (bb_ BK101.out hb); replace HB := aa (below_step zkmbdh hb); (try clear hb hk hi)) | (refine gc_ Tryd.func29 (some 50) #[.slice A0 l0.length c0, .string t105] ?_; (with_reducible refine (impl_find.calls kj7 _ _ l0 t105 t107 true _ zfmbgg HC0.out A19.out).mono ?_); rintro e w80 ⟨rfl, hb⟩; refine ⟨_, rfl, ?_⟩; replace BK101 := aa (bb_ BK101.out hb); replace HB := aa (below_step zkmbdh hb); (try clear hb hk hi); have p109 : 0 ≤ (t107 : Int) := of_decide_eq_true zgglam; have q109 : t107 < (l0.length : Int) := of_decide_eq_true zgglam; obtain ⟨ad109, e109, hx109_0, hx109_1, hx109_2, hx109_3, hx109_4⟩ := at_T32 HR0.out t107 p109 q109; cases e109; replace hx109_0 := pb HB.out hx109_0; replace hx109_1 := pb HB.out hx109_1; replace hx109_2 := pb HB.out hx109_2; replace hx109_3 := pb HB.out hx109_3; replace hx109_4 := pb HB.out hx109_4; replace p109 := eq_true p109; replace q109 := eq_true q109; obtain ⟨hcz81_0, hcz81_1, hcz81_2, hfz81_0, hfz81_1, hfz81_2⟩ := blk3_ BK101.out))
      refine bodyPost_ret (results_cell_row rfl _ _ gb101 28 #[.int .i64 8, .string (⟨#[]⟩ : ByteArray), .slice none 0 0] (0, 0) _ rfl zeoiik Tryd.underlying28 rfl (by kernel_rfl)) rfl ?_
      exact ⟨_, zlhpib, zhijhk, zkmbdh⟩
     replace c20 := Bool.eq_false_iff.mpr c20
     subst c20
     rw [if_neg fT_] at H
     simp only [Option.some.injEq, Prod.mk.injEq] at H
     obtain ⟨rfl, rfl, rfl⟩ := H
     go_wp2_with (first | (refine gc_ Tryd.func37 (some 44) #[.string a1] ?_; (with_reducible refine (impl_parted.calls kj7 a1 t105 t106 _ A18.out).mono ?_); rintro e w82 ⟨rfl, hb⟩; refine ⟨_, rfl, ?_⟩; replace BK101 := aa (bb_ BK101.out hb); replace HB := aa (below_step zkmbdh hb); (try clear hb hk hi)) | (refine gc_ Tryd.func29 (some 50) #[.slice A0 l0.length c0, .string t105] ?_; (with_reducible refine (impl_find.calls kj7 _ _ l0 t105 t107 false _ zfmbgg HC0.out A19.out).mono ?_); rintro e w83 ⟨rfl, hb⟩; refine ⟨_, rfl, ?_⟩; replace BK101 := aa (bb_ BK101.out hb); replace HB := aa (below_step zkmbdh hb); (try clear hb hk hi); obtain ⟨hcz84_0, hcz84_1, hcz84_2, hfz84_0, hfz84_1, hfz84_2⟩ := blk3_ BK101.out))
     refine bodyPost_ret (results_cell_row rfl _ _ gb101 28 #[.int .i64 4, .string (⟨#[]⟩ : ByteArray), .slice none 0 0] (0, 0) _ rfl zcgheb Tryd.underlying28 rfl (by kernel_rfl)) rfl ?_
     exact ⟨_, zlhpib, zhijhk, zkmbdh⟩
 simp only [Option.some.injEq, Prod.mk.injEq] at H
 obtain ⟨rfl, rfl, rfl⟩ := H
 go_enter Tryd.func16, Tryd.ntmps16
 go_wp2_with (first | (refine be_ 10 #[.int .i64 0, .string (⟨#[]⟩ : ByteArray), .slice none 0 0] 28 ?_; intro gb101 hg w85 hbox hb; have n0_ := aa (below_step zjjbob hb); have n1_ := aa (hbox); have n2_ := aa ((zkpfjp : w.heap.size ≤ gb101)); have n3_ := aa ((zkpfjp : w.heap.size ≤ gb101)); clear HB; have HB := n0_; have BK101 := n1_; have GW101 := n2_; have GE101 := n3_; clear n0_ n1_ n2_ n3_; clear hb hbox hg) | (refine gc_ Tryd.func28 (some 23) #[.slice A0 l0.length c0, .string a1] ?_; (with_reducible refine (impl_zCode.calls k _ _ l0 a1 t102 _ zfmbgg HC0.out A6.out).mono ?_); rintro e w86 ⟨rfl, hb⟩; refine ⟨_, rfl, ?_⟩; replace BK101 := aa (bb_ BK101.out hb); replace HB := aa (below_step zkmbdh hb); (try clear hb hk hi); obtain ⟨hcz87_0, hcz87_1, hcz87_2, hfz87_0, hfz87_1, hfz87_2⟩ := blk3_ BK101.out))
 refine bodyPost_ret (results_cell_row rfl _ _ gb101 28 #[.int .i64 t102, .string (⟨#[]⟩ : ByteArray), .slice none 0 0] (0, 0) _ rfl zpdnbb Tryd.underlying28 rfl (by kernel_rfl)) rfl ?_
 exact ⟨_, zlhpib, zhijhk, zkmbdh⟩

end Go.Proofs.YtegggpipggniaaaDoor.Qa
