/- For every input the law FnExactRequestFault returns true, and every argument reads behind the call as it read before: no condition. Here: the last part, the theorem in it. -/
import Derived.Test.YtbeghfdlbokhkaaDoorQcx0
import Derived.Test.YtbeghfdlbokhkaaDoorQcx28
import Derived.Test.YtbeghfdlbokhkaaDoorQcx32
import Derived.Test.YtbeghfdlbokhkaaDoorQcx34
import Derived.Test.YtbeghfdlbokhkaaDoorZFnExactRequestFaulta
import Derived.Test.YtbeghfdlbokhkaaDoorWWords
import Derived.Deep.Slices
import Derived.ChangeArms
import Derived.Test.YtbeghfdlbokhkaaDoorQcx1
import Derived.Test.YtbeghfdlbokhkaaDoorQcx13
import Derived.Test.YtbeghfdlbokhkaaDoorQcx27
import Derived.Test.YtbeghfdlbokhkaaDoorQcx33
import Derived.Test.YtbeghfdlbokhkaaDoorQcx18
import Derived.Test.YtbeghfdlbokhkaaDoorQcx2
import Derived.Test.YtbeghfdlbokhkaaDoorQcx7
import Derived.Test.YtbeghfdlbokhkaaDoorQcx15
import Derived.Test.YtbeghfdlbokhkaaDoorQcx19
import Derived.Test.YtbeghfdlbokhkaaDoorQcx20
import Derived.Test.YtbeghfdlbokhkaaDoorQcx21
import Derived.Test.YtbeghfdlbokhkaaDoorQcx6
import Derived.Test.YtbeghfdlbokhkaaDoorQcx8
import Derived.Test.YtbeghfdlbokhkaaDoorQcx9
import Derived.Test.YtbeghfdlbokhkaaDoorQcx10
import Derived.Test.YtbeghfdlbokhkaaDoorQcx11
import Derived.Test.YtbeghfdlbokhkaaDoorQcx14
import Derived.Test.YtbeghfdlbokhkaaDoorQcx17
import Derived.Test.YtbeghfdlbokhkaaDoorQcx3
import Derived.Test.YtbeghfdlbokhkaaDoorQcx4
import Derived.Test.YtbeghfdlbokhkaaDoorQcx5
import Derived.Test.YtbeghfdlbokhkaaDoorQcx29
import Derived.Test.YtbeghfdlbokhkaaDoorQcx30
import Derived.Test.YtbeghfdlbokhkaaDoorQcx31
import Derived.Test.YtbeghfdlbokhkaaDoorCards
import Derived.Test.YtbeghfdlbokhkaaDoorTie
import Derived.WalkKit
import Derived.ProofKit
import Derived.OpenShut
import Derived.ShutString
import Derived.ChangeOld
import Derived.Below
import Derived.SizedLaws
import Derived.Lay
import Derived.LaidOnce
import Derived.SevenTiedAt
namespace Go.Proofs.YtbeghfdlbokhkaaDoor.Qc
open Go.RowKit Go.Proofs.YtbeghfdlbokhkaaDoorW.PrintWords Go.Proofs.YtbeghfdlbokhkaaDoorW.PrintLast Go.Proofs.YtbeghfdlbokhkaaDoorW.PrintMore
attribute [local go_sem] max2_int min2_int max_two min_two max_three min_three max_four min_four
set_option linter.unusedVariables false
set_option linter.unusedSimpArgs false
set_option maxHeartbeats 8000000
set_option maxRecDepth 100000
mutual
def laws_FnExactRequestFault.j0 : Nat → Int → Int → Int → List (S23) → Option (Bool)
 | 0, _, _, _, _ => none
 | k + 1, x102000, x102001, x102002, x102003 => (laws_toRequest.f k x102000 x102001 x102002 x102003).bind fun bt103 => ((spec_RequestFault.f k bt103.1 bt103.2.1 bt103.2.2.1 bt103.2.2.2).bind fun t109 => ((laws_toRequest.f k x102000 x102001 x102002 x102003).bind fun bt110 => ((impl_RequestFault.f k bt110.1 bt110.2.1 bt110.2.2.1 bt110.2.2.2).bind fun t117 => (if t117 = t109 then (laws_FnExactRequestFault.j1 k x102000 x102001 x102002 x102003 bt110.1 bt110.2.1 bt110.2.2.1 bt110.2.2.2) else (some false)))))
def laws_FnExactRequestFault.j1 : Nat → Int → Int → Int → List (S23) → Int → Int → Int → List (S26) → Option (Bool)
 | 0, _, _, _, _, _, _, _, _ => none
 | k + 1, x102000, x102001, x102002, x102003, x117000, x117001, x117002, x117003 => (laws_toRequest.f k x102000 x102001 x102002 x102003).bind fun bt118 => ((laws_eqRequest.f k x117000 x117001 x117002 x117003 bt118.1 bt118.2.1 bt118.2.2.1 bt118.2.2.2).bind fun t124 => (if t124 = true then (some true) else (some false)))
end
def laws_FnExactRequestFault.f (k : Nat) (a0_0 : Int) (a0_1 : Int) (a0_2 : Int) (l0_3 : List (S23)) : Option (Bool) := (laws_szRequest.f k a0_0 a0_1 a0_2 l0_3 1048576).bind fun t102 => (if t102 < 0 then (some true) else (laws_FnExactRequestFault.j0 k a0_0 a0_1 a0_2 l0_3))
theorem laws_FnExactRequestFault.mono_l : ∀ k, (∀ y0 y1 y2 y3, LeO (laws_FnExactRequestFault.j0 k y0 y1 y2 y3) (laws_FnExactRequestFault.j0 (k + 1) y0 y1 y2 y3)) ∧ (∀ y0 y1 y2 y3 y4 y5 y6 y7, LeO (laws_FnExactRequestFault.j1 k y0 y1 y2 y3 y4 y5 y6 y7) (laws_FnExactRequestFault.j1 (k + 1) y0 y1 y2 y3 y4 y5 y6 y7))
 | 0 => ⟨fun _ _ _ _ r h => by simp [laws_FnExactRequestFault.j0] at h, fun _ _ _ _ _ _ _ _ r h => by simp [laws_FnExactRequestFault.j1] at h⟩
 | k + 1 => by
  obtain ⟨ih0, ih1⟩ := laws_FnExactRequestFault.mono_l k
  refine ⟨?_, ?_⟩
  ·
   intro y0 y1 y2 y3
   unfold laws_FnExactRequestFault.j0
   with_reducible repeat' first | exact ih0 _ _ _ _ | exact ih1 _ _ _ _ _ _ _ _ | exact impl_RequestFault.mono _ _ _ _ _ | exact laws_eqRequest.mono _ _ _ _ _ _ _ _ _ | exact laws_szRequest.mono _ _ _ _ _ _ | exact laws_toRequest.mono _ _ _ _ _ | exact spec_RequestFault.mono _ _ _ _ _ | exact LeO.refl _ | exact LeO.none _ | refine LeO.ite ?_ ?_ | refine LeO.bind ?_ (fun _ => ?_)
  ·
   intro y0 y1 y2 y3 y4 y5 y6 y7
   unfold laws_FnExactRequestFault.j1
   with_reducible repeat' first | exact ih0 _ _ _ _ | exact ih1 _ _ _ _ _ _ _ _ | exact impl_RequestFault.mono _ _ _ _ _ | exact laws_eqRequest.mono _ _ _ _ _ _ _ _ _ | exact laws_szRequest.mono _ _ _ _ _ _ | exact laws_toRequest.mono _ _ _ _ _ | exact spec_RequestFault.mono _ _ _ _ _ | exact LeO.refl _ | exact LeO.none _ | refine LeO.ite ?_ ?_ | refine LeO.bind ?_ (fun _ => ?_)
theorem laws_FnExactRequestFault.mono : ∀ a0 a1 a2 a3 k, LeO (laws_FnExactRequestFault.f k a0 a1 a2 a3) (laws_FnExactRequestFault.f (k + 1) a0 a1 a2 a3) := by
 intro a0 a1 a2 a3 k
 obtain ⟨ih0, ih1⟩ := laws_FnExactRequestFault.mono_l k
 unfold laws_FnExactRequestFault.f
 with_reducible repeat' first | exact ih0 _ _ _ _ | exact ih1 _ _ _ _ _ _ _ _ | exact impl_RequestFault.mono _ _ _ _ _ | exact laws_eqRequest.mono _ _ _ _ _ _ _ _ _ | exact laws_szRequest.mono _ _ _ _ _ _ | exact laws_toRequest.mono _ _ _ _ _ | exact spec_RequestFault.mono _ _ _ _ _ | exact LeO.refl _ | exact LeO.none _ | refine LeO.ite ?_ ?_ | refine LeO.bind ?_ (fun _ => ?_)
theorem laws_FnExactRequestFault.calls (k : Nat) (a0_0 : Int) (a0_1 : Int) (a0_2 : Int) (A0_3 : Option Addr) (c0_3 : Nat) (l0_3 : List (S23)) (r : Bool) (w : World) (hr0_3 : Kd.C k23 w A0_3 l0_3.length l0_3) (hc0_3 : l0_3.length ≤ c0_3) (h : laws_FnExactRequestFault.f k a0_0 a0_1 a0_2 l0_3 = some r) :
  Calls Tryd.prog 4 #[.agg #[.int .i64 a0_0, .int .i64 a0_1, .int .i64 a0_2, .slice A0_3 l0_3.length c0_3]] w fun e w' => e = .returned (.bool r) ∧ Below w.heap.size w w' := by
 have hu31 := Tryd.underlying31
 have hu36 := Tryd.underlying36
 have HR0_3 := aa hr0_3
 have HC0_3 := aa hc0_3
 clear hr0_3 hc0_3
 have HB := aa (Below.refl w.heap.size w)
 have H : ((laws_szRequest.f k a0_0 a0_1 a0_2 l0_3 1048576).bind fun t102 => (if t102 < 0 then (some true) else (laws_FnExactRequestFault.j0 k a0_0 a0_1 a0_2 l0_3))) = some r := h
 clear h
 revert H
 refine obs_ fun t102 A2 H => ?_
 have HC3 := aa H
 clear H
 go_enter Tryd.func4, Tryd.ntmps4
 go_upto_if 11 with (first | (refine be_ 1 #[.int .i64 a0_0, .int .i64 a0_1, .int .i64 a0_2, .slice A0_3 l0_3.length c0_3] 31 ?_; intro gb101 hg w4 hbox hb; have n0_ := aa (below_step zjjbob hb); have n1_ := aa (hbox); have n2_ := aa ((zkpfjp : w.heap.size ≤ gb101)); have n3_ := aa ((zkpfjp : w.heap.size ≤ gb101)); clear HB; have HB := n0_; have BK101 := n1_; have GW101 := n2_; have GE101 := n3_; clear n0_ n1_ n2_ n3_; clear hb hbox hg; obtain ⟨hcz5_0, hcz5_1, hcz5_2, hcz5_3, hfz5_0, hfz5_1, hfz5_2, hfz5_3⟩ := blk4_ BK101.out) | (refine gc_ Tryd.func9 (some 9) #[.agg #[.int .i64 a0_0, .int .i64 a0_1, .int .i64 a0_2, .slice A0_3 l0_3.length c0_3], .int .i64 1048576] ?_; (with_reducible refine (laws_szRequest.calls k a0_0 a0_1 a0_2 _ _ l0_3 1048576 t102 _ zohcab HC0_3.out A2.out).mono ?_); rintro e w6 ⟨rfl, hb⟩; refine ⟨_, rfl, ?_⟩; replace BK101 := aa (bb_ BK101.out hb); replace HB := aa (below_step zkmbdh hb); (try clear hb hk hi)))
 (try simp only [Act.put, List.setIfInBounds_toArray, List.set_cons_zero, List.set_cons_succ])
 go_cut [] (fun wc => ∃ (kq : Nat), Aside0 (laws_FnExactRequestFault.j0 kq a0_0 a0_1 a0_2 l0_3 = some r) ∧ Aside0 (kq ≤ k) ∧ Aside0 (wc.heap[gb101]? = some (.cells #[.int .i64 a0_0, .int .i64 a0_1, .int .i64 a0_2, (.slice A0_3 l0_3.length c0_3)] 31 (0, 0))) ∧ Aside0 (Below w.heap.size w wc))
 case first =>
  have H := HC3.out
  clear HC3
  revert H
  refine itD_ (fun c7b0 H => ?_) fun c7b0 H => ?_
  ·
   (first | rw [c7b0] | (simp only [i64_w, i32_w]; rw [c7b0]) | (simp only [c7b2, Bool.not_false, Bool.not_true]) | skip)
   obtain rfl := Option.some.inj H
   go_wp2
   go_ret
   exact ⟨zlhpib, zkmbdh⟩
  (first | rw [c7b0] | (simp only [i64_w, i32_w]; rw [c7b0]) | (simp only [c7b2, Bool.not_false, Bool.not_true]) | skip)
  have H' := aa H
  clear H
  go_wp2
  go_meet
  case rel => exact ⟨_, H', ⟨zpacfg⟩, ⟨zkjhpm BK101.out⟩, ⟨zkmbdh⟩⟩
 case rest =>
  clear HC3
  try clear p2
  try clear c7b0
  try clear c7b2
  try clear hcz5_0
  try clear hcz5_1
  try clear hcz5_2
  try clear hcz5_3
  try clear hfz5_0
  try clear hfz5_1
  try clear hfz5_2
  try clear hfz5_3
  obtain ⟨kq, HA, HJ2, BK101, HB⟩ := hcut
  cases kq with
  | zero => exact absurd HA.out (by simp [laws_FnExactRequestFault.j0])
  | succ kj2 =>
   have H := HA.out
   clear HA
   simp only [laws_FnExactRequestFault.j0] at H
   revert H
   refine ob4_ fun t103 t104 t105 t106 A8 H => ?_
   (try dsimp only at H)
   revert H
   refine obs_ fun t109 A9 H => ?_
   revert H
   refine ob4_ fun t110 t111 t112 t113 A10 H => ?_
   (try dsimp only at H)
   revert H
   refine obs_ fun t117 A11 H => ?_
   have HC12 := aa H
   clear H
   obtain ⟨hcz13_0, hcz13_1, hcz13_2, hcz13_3, hfz13_0, hfz13_1, hfz13_2, hfz13_3⟩ := blk4_ BK101.out
   go_upto_if 21 with (first | (refine gc_ Tryd.func11 (some 13) #[.agg #[.int .i64 a0_0, .int .i64 a0_1, .int .i64 a0_2, .slice A0_3 l0_3.length c0_3]] ?_; (with_reducible refine (laws_toRequest.calls kj2 a0_0 a0_1 a0_2 _ _ l0_3 t103 t104 t105 t106 _ zohcab HC0_3.out A8.out).mono ?_); rintro e w14 ⟨v107, rfl, ho0, hb⟩; refine ⟨_, rfl, ?_⟩; have HO108 := aa (Kd.R_lower ho0 (below_size zkmbdh)); replace BK101 := aa (bb_ BK101.out hb); replace HB := aa (below_step zkmbdh hb); (try clear hb hk hi ho0); obtain ⟨Ao15, co15, eo15⟩ := Kd.R_slice HO108.out; subst eo15) | (refine gc_ Tryd.func10 (some 14) #[.agg #[.int .i64 t103, .int .i64 t104, .int .i64 t105, .slice Ao15 t106.length co15]] ?_; (with_reducible refine (spec_RequestFault.calls kj2 t103 t104 t105 _ _ t106 t109 _ ?side1 ?side2 A9.out).mono ?_); (case side1 => repeat (first | exact (Kd.R_reads' HO108.out).2.2 | (with_reducible refine Kd.C_alloc ?_ _) | (with_reducible refine Kd.C_drewN ?_ _) | (with_reducible refine Kd.C_drew ?_))); (case side2 => exact (Kd.R_reads' HO108.out).2.1); rintro e w16 ⟨rfl, hb⟩; refine ⟨_, rfl, ?_⟩; replace HO108 := aa (Kd.R_below (zcaken HO108.out) hb); replace BK101 := aa (bb_ BK101.out hb); replace HB := aa (below_step zkmbdh hb); (try clear hb hk hi); obtain ⟨hcz17_0, hcz17_1, hcz17_2, hcz17_3, hfz17_0, hfz17_1, hfz17_2, hfz17_3⟩ := blk4_ BK101.out) | (refine gc_ Tryd.func11 (some 16) #[.agg #[.int .i64 a0_0, .int .i64 a0_1, .int .i64 a0_2, .slice A0_3 l0_3.length c0_3]] ?_; (with_reducible refine (laws_toRequest.calls kj2 a0_0 a0_1 a0_2 _ _ l0_3 t110 t111 t112 t113 _ zohcab HC0_3.out A10.out).mono ?_); rintro e w18 ⟨v114, rfl, ho0, hb⟩; refine ⟨_, rfl, ?_⟩; have n0_ := aa (Kd.R_elder' (zcaken HO108.out) (Kd.R_base ho0) hb); have n1_ := aa (Kd.R_lower (Kd.R_new' ho0 (Kd.R_lt (zcaken HO108.out))) (below_size zkmbdh)); have n2_ := aa (bb_ BK101.out hb); have n3_ := aa (below_step zkmbdh hb); clear HO108; clear BK101; clear HB; have HO108 := n0_; have HO115 := n1_; have BK101 := n2_; have HB := n3_; clear n0_ n1_ n2_ n3_; (try clear hb hk hi ho0)) | (refine be_ 5 #[.int .i64 0, .int .i64 0, .int .i64 0, .slice none 0 0] 36 ?_; intro gb116 hg w19 hbox hb; have n0_ := aa (Kd.R_below (zcaken HO108.out) hb); have n1_ := aa (Kd.R_below (zcaken HO115.out) hb); have n2_ := aa (bb_ BK101.out hb); have n3_ := aa (below_step zkmbdh hb); have n4_ := aa (hbox); have n5_ := aa ((zmjkhl : w.heap.size ≤ gb116)); have n6_ := aa ((zmjkhl : w.heap.size ≤ gb116)); have n7_ := aa ((znfjme : gb101 ≠ gb116)); have n8_ := aa ((zcnhmb : gb116 ≠ gb101)); clear HO108; clear HO115; clear BK101; clear HB; have HO108 := n0_; have HO115 := n1_; have BK101 := n2_; have HB := n3_; have BK116 := n4_; have GW116 := n5_; have GE116 := n6_; have NB101_116 := n7_; have NB116_101 := n8_; clear n0_ n1_ n2_ n3_ n4_ n5_ n6_ n7_ n8_; clear hb hbox hg; have hnb20 := NB116_101.out; have hnc20 := NB101_116.out; obtain ⟨hcz21_0, hcz21_1, hcz21_2, hcz21_3, hfz21_0, hfz21_1, hfz21_2, hfz21_3⟩ := blk4_ BK116.out; obtain ⟨Ao22, co22, eo22⟩ := Kd.R_slice HO115.out; subst eo22) | (refine gc_ Tryd.func12 (some 18) #[.agg #[.int .i64 t110, .int .i64 t111, .int .i64 t112, .slice Ao22 t113.length co22]] ?_; (with_reducible refine (impl_RequestFault.calls kj2 t110 t111 t112 _ _ t113 t117 _ ?side1 ?side2 A11.out).mono ?_); (case side1 => refine (Kd.R_reads' (e := 26) (base := w.heap.size) (ok := fun k_ => (True ∧ some k_ ≠ (.slice Ao15 t106.length co15 : Value).ownBlock)) (n := t113.length) (c := co22) ?_).2.2; exact (by (with_reducible repeat (first | apply Kd.R_alloc | apply Kd.R_drewN | apply Kd.R_drew)); exact (Kd.R_mono (Kd.R_far (p := ⟨gb116, 3, none⟩) (Kd.R_far (p := ⟨gb116, 2, none⟩) (Kd.R_far (p := ⟨gb116, 1, none⟩) (Kd.R_far (p := ⟨gb116, 0, none⟩) (Kd.R_types HO115.out BK116.out (by decide)) (fun _ hk => hk.2) (.int .i64 t110)) (fun _ hk => hk.2) (.int .i64 t111)) (fun _ hk => hk.2) (.int .i64 t112)) (fun _ hk => hk.2) (.slice Ao22 t113.length co22)) (fun _ h_ => h_.1)))); (case side2 => exact (Kd.R_reads' HO115.out).2.1); rintro e w23 ⟨rfl, hb⟩; refine ⟨_, rfl, ?_⟩; have n0_ := aa (Kd.R_below (by (with_reducible repeat (first | apply Kd.R_alloc | apply Kd.R_drewN | apply Kd.R_drew)); exact (Kd.R_mono (Kd.R_far (p := ⟨gb116, 3, none⟩) (Kd.R_far (p := ⟨gb116, 2, none⟩) (Kd.R_far (p := ⟨gb116, 1, none⟩) (Kd.R_far (p := ⟨gb116, 0, none⟩) (Kd.R_types HO108.out BK116.out (by decide)) (fun _ hk => hk.2) (.int .i64 t110)) (fun _ hk => hk.2) (.int .i64 t111)) (fun _ hk => hk.2) (.int .i64 t112)) (fun _ hk => hk.2) (.slice Ao22 t113.length co22)) (fun _ h_ => h_.1))) hb); have n1_ := aa (Kd.R_below (by (with_reducible repeat (first | apply Kd.R_alloc | apply Kd.R_drewN | apply Kd.R_drew)); exact (Kd.R_mono (Kd.R_far (p := ⟨gb116, 3, none⟩) (Kd.R_far (p := ⟨gb116, 2, none⟩) (Kd.R_far (p := ⟨gb116, 1, none⟩) (Kd.R_far (p := ⟨gb116, 0, none⟩) (Kd.R_types HO115.out BK116.out (by decide)) (fun _ hk => hk.2) (.int .i64 t110)) (fun _ hk => hk.2) (.int .i64 t111)) (fun _ hk => hk.2) (.int .i64 t112)) (fun _ hk => hk.2) (.slice Ao22 t113.length co22)) (fun _ h_ => h_.1))) hb); have n2_ := aa (blk_below (g := gb101) (o := .cells #[.int .i64 a0_0, .int .i64 a0_1, .int .i64 a0_2, .slice A0_3 l0_3.length c0_3] 31 (0, 0)) (by (with_reducible repeat (first | refine blk_drewN ?_ _ | refine blk_drew ?_ | refine blk_alloc ?_ _)); refine blk_far ?_ NB101_116.out _; (with_reducible repeat (first | refine blk_drewN ?_ _ | refine blk_drew ?_ | refine blk_alloc ?_ _)); refine blk_far ?_ NB101_116.out _; (with_reducible repeat (first | refine blk_drewN ?_ _ | refine blk_drew ?_ | refine blk_alloc ?_ _)); refine blk_far ?_ NB101_116.out _; (with_reducible repeat (first | refine blk_drewN ?_ _ | refine blk_drew ?_ | refine blk_alloc ?_ _)); refine blk_far ?_ NB101_116.out _; (with_reducible repeat (first | refine blk_drewN ?_ _ | refine blk_drew ?_ | refine blk_alloc ?_ _)); exact BK101.out) hb); have n3_ := aa (blk_below (g := gb116) (o := .cells #[.int .i64 t110, .int .i64 t111, .int .i64 t112, .slice Ao22 t113.length co22] 36 (0, 0)) (by (with_reducible repeat (first | refine blk_drewN ?_ _ | refine blk_drew ?_ | refine blk_alloc ?_ _)); refine blk_put (cs := #[.int .i64 t110, .int .i64 t111, .int .i64 t112, .slice none 0 0]) ?_ 3 _ rfl; (with_reducible repeat (first | refine blk_drewN ?_ _ | refine blk_drew ?_ | refine blk_alloc ?_ _)); refine blk_put (cs := #[.int .i64 t110, .int .i64 t111, .int .i64 0, .slice none 0 0]) ?_ 2 _ rfl; (with_reducible repeat (first | refine blk_drewN ?_ _ | refine blk_drew ?_ | refine blk_alloc ?_ _)); refine blk_put (cs := #[.int .i64 t110, .int .i64 0, .int .i64 0, .slice none 0 0]) ?_ 1 _ rfl; (with_reducible repeat (first | refine blk_drewN ?_ _ | refine blk_drew ?_ | refine blk_alloc ?_ _)); refine blk_put (cs := #[.int .i64 0, .int .i64 0, .int .i64 0, .slice none 0 0]) ?_ 0 _ rfl; (with_reducible repeat (first | refine blk_drewN ?_ _ | refine blk_drew ?_ | refine blk_alloc ?_ _)); exact BK116.out) hb); have n4_ := aa (below_step zajogn hb); clear HO108; clear HO115; clear BK101; clear BK116; clear HB; have HO108 := n0_; have HO115 := n1_; have BK101 := n2_; have BK116 := n3_; have HB := n4_; clear n0_ n1_ n2_ n3_ n4_; (try clear hb hk hi)))
   (try simp only [Act.put, List.setIfInBounds_toArray, List.set_cons_zero, List.set_cons_succ])
   go_cut [] (fun wc => ∃ (kq : Nat), Aside0 (laws_FnExactRequestFault.j1 kq a0_0 a0_1 a0_2 l0_3 t110 t111 t112 t113 = some r) ∧ Aside0 (kq ≤ kj2) ∧ Aside0 (Kd.R k26 26 wc w.heap.size (fun _ => True) (.slice Ao22 t113.length co22) t113) ∧ Aside0 (wc.heap[gb101]? = some (.cells #[.int .i64 a0_0, .int .i64 a0_1, .int .i64 a0_2, (.slice A0_3 l0_3.length c0_3)] 31 (0, 0))) ∧ Aside0 (wc.heap[gb116]? = some (.cells #[.int .i64 t110, .int .i64 t111, .int .i64 t112, (.slice Ao22 t113.length co22)] 36 (0, 0))) ∧ Aside0 (Below w.heap.size w wc))
   case first =>
    have H := HC12.out
    clear HC12
    revert H
    refine itE_ (fun c24b0 c24b1 H => ?_) fun c24b0 c24b1 H => ?_
    ·
     (first | rw [c24b0] | (simp only [i64_w, i32_w]; rw [c24b0]) | (simp only [c24b2, Bool.not_false, Bool.not_true]) | skip)
     have H' := aa H
     clear H
     go_wp2
     go_meet
     case rel => exact ⟨_, H', ⟨by have := HJ2.out; first | omega | exact Nat.le_refl _⟩, ⟨by (with_reducible repeat (first | apply Kd.R_alloc | apply Kd.R_drewN | apply Kd.R_drew)); exact Kd.R_mono HO115.out (fun _ hk => trivial)⟩, ⟨zkjhpm BK101.out⟩, ⟨zkjhpm BK116.out⟩, ⟨zajogn⟩⟩
    (first | rw [c24b0] | (simp only [i64_w, i32_w]; rw [c24b0]) | (simp only [c24b2, Bool.not_false, Bool.not_true]) | skip)
    obtain rfl := Option.some.inj H
    go_wp2
    go_ret
    exact ⟨zlhpib, zajogn⟩
   case rest =>
    clear HC12
    try clear p2
    try clear c7b0
    try clear c7b2
    try clear c24b0
    try clear c24b1
    try clear c24b2
    try clear hcz13_0
    try clear hcz13_1
    try clear hcz13_2
    try clear hcz13_3
    try clear hcz17_0
    try clear hcz17_1
    try clear hcz17_2
    try clear hcz17_3
    try clear hcz21_0
    try clear hcz21_1
    try clear hcz21_2
    try clear hcz21_3
    try clear hcz5_0
    try clear hcz5_1
    try clear hcz5_2
    try clear hcz5_3
    try clear hfz13_0
    try clear hfz13_1
    try clear hfz13_2
    try clear hfz13_3
    try clear hfz17_0
    try clear hfz17_1
    try clear hfz17_2
    try clear hfz17_3
    try clear hfz21_0
    try clear hfz21_1
    try clear hfz21_2
    try clear hfz21_3
    try clear hfz5_0
    try clear hfz5_1
    try clear hfz5_2
    try clear hfz5_3
    try clear p2
    obtain ⟨kq, HA, HJ11, HO_117003, BK101, BK116, HB⟩ := hcut
    cases kq with
    | zero => exact absurd HA.out (by simp [laws_FnExactRequestFault.j1])
    | succ kj11 =>
     have H := HA.out
     clear HA
     simp only [laws_FnExactRequestFault.j1] at H
     revert H
     refine ob4_ fun t118 t119 t120 t121 A25 H => ?_
     (try dsimp only at H)
     revert H
     refine obs_ fun t124 A26 H => ?_
     by_cases c27 : t124 = true
     ·
      subst c27
      rw [if_pos rfl] at H
      obtain rfl := Option.some.inj H
      try go_wp2
      replace HO_117003 := aa (Kd.R_drew HO_117003.out)
      replace BK101 := aa (blk_drew BK101.out)
      replace BK116 := aa (blk_drew BK116.out)
      replace HB := aa (below_drew1 HB.out)
      refine start_ (n := 5) (S := fun w' => w'.cell? ⟨gb116, 0, none⟩ = some (.int .i64 t110) ∧ w'.cell? ⟨gb116, 1, none⟩ = some (.int .i64 t111) ∧ w'.cell? ⟨gb116, 2, none⟩ = some (.int .i64 t112) ∧ w'.cell? ⟨gb116, 3, none⟩ = some (.slice Ao22 t113.length co22) ∧ w'.cell? ⟨gb101, 0, none⟩ = some (.int .i64 a0_0) ∧ w'.cell? ⟨gb101, 1, none⟩ = some (.int .i64 a0_1) ∧ w'.cell? ⟨gb101, 2, none⟩ = some (.int .i64 a0_2) ∧ w'.cell? ⟨gb101, 3, none⟩ = some (.slice A0_3 l0_3.length c0_3)) (ds := []) #[false, false, false, false, false] (by kernel_rfl) rfl rfl ⟨(blk_cell BK116.out 0).trans rfl, (blk_cell BK116.out 1).trans rfl, (blk_cell BK116.out 2).trans rfl, (blk_cell BK116.out 3).trans rfl, (blk_cell BK101.out 0).trans rfl, (blk_cell BK101.out 1).trans rfl, (blk_cell BK101.out 2).trans rfl, (blk_cell BK101.out 3).trans rfl⟩ (fun hHeld => ?_)
      generalize wc.drew = w28 at HO_117003 BK101 BK116 HB hHeld ⊢
      refine take_ (i := 0) (N := some 22) (v := ?_) (a' := ?_) #[true, false, false, false, false] rfl rfl (by kernel_rfl) (fun _ _ _ h => h) (Or.inl ⟨by rfl, ?_⟩) hHeld ?_ ?_
      rotate_left
      ·
       rintro w' ⟨s0, s1, s2, s3, s4, s5, s6, s7⟩
       go_simp
       with_reducible rfl
      rotate_left
      ·
       simp only [Act.put, List.setIfInBounds_toArray, List.set_cons_zero, List.set_cons_succ, i64_w, i32_w]
       rfl
      refine take_ (i := 1) (N := some 23) (v := ?_) (a' := ?_) #[true, true, false, false, false] rfl rfl (by kernel_rfl) (fun _ _ _ h => h) (Or.inl ⟨by rfl, ?_⟩) hHeld ?_ ?_
      rotate_left
      ·
       rintro w' ⟨s0, s1, s2, s3, s4, s5, s6, s7⟩
       go_simp
       with_reducible rfl
      rotate_left
      ·
       simp only [Act.put, List.setIfInBounds_toArray, List.set_cons_zero, List.set_cons_succ, i64_w, i32_w]
       rfl
      refine one_ (i := 2) (N := some 24) #[true, true, true, false, false] rfl rfl (by kernel_rfl) (by decide) (fun K hK => ?_)
      refine goes_ Tryd.func11 (by kernel_rfl) rfl #[.agg #[.int .i64 a0_0, .int .i64 a0_1, .int .i64 a0_2, .slice A0_3 l0_3.length c0_3]] (by rfl) rfl rfl zjnmae ?_
      with_reducible refine (laws_toRequest.calls kj11 a0_0 a0_1 a0_2 _ _ l0_3 t118 t119 t120 t121 _ ?side1 ?side2 A25.out).mono ?_
      (case side1 => exact zohcab)
      (case side2 => exact HC0_3.out)
      rintro e w29 ⟨v122, rfl, ho0, hb⟩
      refine ⟨_, rfl, ?_⟩
      have n0_ := aa (Kd.R_elder' (zcaken HO_117003.out) (Kd.R_base ho0) hb)
      have n1_ := aa (Kd.R_lower (Kd.R_new' ho0 (Kd.R_lt (zcaken HO_117003.out))) (below_size zajogn))
      have n2_ := aa (bb_ BK101.out hb)
      have n3_ := aa (bb_ BK116.out hb)
      have n4_ := aa (below_step zajogn hb)
      clear HO_117003
      clear BK101
      clear BK116
      clear HB
      have HO_117003 := n0_
      have HO123 := n1_
      have BK101 := n2_
      have BK116 := n3_
      have HB := n4_
      clear n0_ n1_ n2_ n3_ n4_
      (try clear hb)
      (try clear hb2)
      (try clear hk)
      (try clear hi)
      (try clear ho0)
      obtain ⟨Ao30, co30, eo30⟩ := Kd.R_slice HO123.out
      (first | subst eo30 | (injection eo30 with f1_ f2_ f3_; have f4_ := f1_.symm; have f5_ := f3_.symm; clear f1_ f2_ f3_; subst f4_; subst f5_))
      refine hK.out _ _ ⟨(blk_cell BK116.out 0).trans rfl, (blk_cell BK116.out 1).trans rfl, (blk_cell BK116.out 2).trans rfl, (blk_cell BK116.out 3).trans rfl, (blk_cell BK101.out 0).trans rfl, (blk_cell BK101.out 1).trans rfl, (blk_cell BK101.out 2).trans rfl, (blk_cell BK101.out 3).trans rfl⟩ (fun hHeld => ?_)
      clear hK K
      refine norm_ (a' := ?_) ?_ ?_
      rotate_left
      ·
       show Act.put _ (some 24) _ = _
       simp only [Act.put, List.setIfInBounds_toArray, List.set_cons_zero, List.set_cons_succ, i64_w, i32_w]
       rfl
      refine one_ (i := 3) (N := some 25) #[true, true, true, true, false] rfl rfl (by kernel_rfl) (by decide) (fun K hK => ?_)
      refine goes_ Tryd.func13 (by kernel_rfl) rfl #[.agg #[.int .i64 t110, .int .i64 t111, .int .i64 t112, .slice Ao22 t113.length co22], .agg #[.int .i64 t118, .int .i64 t119, .int .i64 t120, .slice Ao30 t121.length co30]] (by rfl) rfl rfl zjnmae ?_
      with_reducible refine (laws_eqRequest.calls kj11 t110 t111 t112 _ _ t113 t118 t119 t120 _ _ t121 true _ ?side1 ?side2 ?side3 ?side4 A26.out).mono ?_
      (case side1 => exact zkioha)
      (case side2 => exact (Kd.R_reads' HO_117003.out).2.1)
      (case side3 => exact zbikob)
      (case side4 => exact (Kd.R_reads' HO123.out).2.1)
      rintro e w31 ⟨rfl, hb⟩
      refine ⟨_, rfl, ?_⟩
      replace HO_117003 := aa (Kd.R_below (zcaken HO_117003.out) hb)
      replace HO123 := aa (Kd.R_below (zcaken HO123.out) hb)
      replace BK101 := aa (bb_ BK101.out hb)
      replace BK116 := aa (bb_ BK116.out hb)
      replace HB := aa (below_step zajogn hb)
      (try clear hb)
      (try clear hb2)
      (try clear hk)
      (try clear hi)
      refine hK.out _ _ ⟨(blk_cell BK116.out 0).trans rfl, (blk_cell BK116.out 1).trans rfl, (blk_cell BK116.out 2).trans rfl, (blk_cell BK116.out 3).trans rfl, (blk_cell BK101.out 0).trans rfl, (blk_cell BK101.out 1).trans rfl, (blk_cell BK101.out 2).trans rfl, (blk_cell BK101.out 3).trans rfl⟩ (fun hHeld => ?_)
      clear hK K
      refine norm_ (a' := ?_) ?_ ?_
      rotate_left
      ·
       show Act.put _ (some 25) _ = _
       simp only [Act.put, List.setIfInBounds_toArray, List.set_cons_zero, List.set_cons_succ, i64_w, i32_w]
       rfl
      refine pure_ (i := 4) (N := some 26) (v := ?_) (a' := ?_) #[true, true, true, true, true] rfl rfl (by kernel_rfl) (fun _ _ _ h => h) (Or.inl ⟨by rfl, ?_⟩) ?_ ?_
      rotate_left
      ·
       intro w'
       go_simp
       with_reducible rfl
      rotate_left
      ·
       simp only [Act.put, List.setIfInBounds_toArray, List.set_cons_zero, List.set_cons_succ, i64_w, i32_w]
       rfl
      refine done_ (by kernel_rfl) ?_
      try go_wp2
      go_ret
      exact ⟨zlhpib, zajogn⟩
     ·
      replace c27 := Bool.eq_false_iff.mpr c27
      subst c27
      rw [if_neg fT_] at H
      obtain rfl := Option.some.inj H
      try go_wp2
      replace HO_117003 := aa (Kd.R_drew HO_117003.out)
      replace BK101 := aa (blk_drew BK101.out)
      replace BK116 := aa (blk_drew BK116.out)
      replace HB := aa (below_drew1 HB.out)
      refine start_ (n := 5) (S := fun w' => w'.cell? ⟨gb116, 0, none⟩ = some (.int .i64 t110) ∧ w'.cell? ⟨gb116, 1, none⟩ = some (.int .i64 t111) ∧ w'.cell? ⟨gb116, 2, none⟩ = some (.int .i64 t112) ∧ w'.cell? ⟨gb116, 3, none⟩ = some (.slice Ao22 t113.length co22) ∧ w'.cell? ⟨gb101, 0, none⟩ = some (.int .i64 a0_0) ∧ w'.cell? ⟨gb101, 1, none⟩ = some (.int .i64 a0_1) ∧ w'.cell? ⟨gb101, 2, none⟩ = some (.int .i64 a0_2) ∧ w'.cell? ⟨gb101, 3, none⟩ = some (.slice A0_3 l0_3.length c0_3)) (ds := []) #[false, false, false, false, false] (by kernel_rfl) rfl rfl ⟨(blk_cell BK116.out 0).trans rfl, (blk_cell BK116.out 1).trans rfl, (blk_cell BK116.out 2).trans rfl, (blk_cell BK116.out 3).trans rfl, (blk_cell BK101.out 0).trans rfl, (blk_cell BK101.out 1).trans rfl, (blk_cell BK101.out 2).trans rfl, (blk_cell BK101.out 3).trans rfl⟩ (fun hHeld => ?_)
      generalize wc.drew = w32 at HO_117003 BK101 BK116 HB hHeld ⊢
      refine take_ (i := 0) (N := some 22) (v := ?_) (a' := ?_) #[true, false, false, false, false] rfl rfl (by kernel_rfl) (fun _ _ _ h => h) (Or.inl ⟨by rfl, ?_⟩) hHeld ?_ ?_
      rotate_left
      ·
       rintro w' ⟨s0, s1, s2, s3, s4, s5, s6, s7⟩
       go_simp
       with_reducible rfl
      rotate_left
      ·
       simp only [Act.put, List.setIfInBounds_toArray, List.set_cons_zero, List.set_cons_succ, i64_w, i32_w]
       rfl
      refine take_ (i := 1) (N := some 23) (v := ?_) (a' := ?_) #[true, true, false, false, false] rfl rfl (by kernel_rfl) (fun _ _ _ h => h) (Or.inl ⟨by rfl, ?_⟩) hHeld ?_ ?_
      rotate_left
      ·
       rintro w' ⟨s0, s1, s2, s3, s4, s5, s6, s7⟩
       go_simp
       with_reducible rfl
      rotate_left
      ·
       simp only [Act.put, List.setIfInBounds_toArray, List.set_cons_zero, List.set_cons_succ, i64_w, i32_w]
       rfl
      refine one_ (i := 2) (N := some 24) #[true, true, true, false, false] rfl rfl (by kernel_rfl) (by decide) (fun K hK => ?_)
      refine goes_ Tryd.func11 (by kernel_rfl) rfl #[.agg #[.int .i64 a0_0, .int .i64 a0_1, .int .i64 a0_2, .slice A0_3 l0_3.length c0_3]] (by rfl) rfl rfl zjnmae ?_
      with_reducible refine (laws_toRequest.calls kj11 a0_0 a0_1 a0_2 _ _ l0_3 t118 t119 t120 t121 _ ?side1 ?side2 A25.out).mono ?_
      (case side1 => exact zohcab)
      (case side2 => exact HC0_3.out)
      rintro e w33 ⟨v122, rfl, ho0, hb⟩
      refine ⟨_, rfl, ?_⟩
      have n0_ := aa (Kd.R_elder' (zcaken HO_117003.out) (Kd.R_base ho0) hb)
      have n1_ := aa (Kd.R_lower (Kd.R_new' ho0 (Kd.R_lt (zcaken HO_117003.out))) (below_size zajogn))
      have n2_ := aa (bb_ BK101.out hb)
      have n3_ := aa (bb_ BK116.out hb)
      have n4_ := aa (below_step zajogn hb)
      clear HO_117003
      clear BK101
      clear BK116
      clear HB
      have HO_117003 := n0_
      have HO123 := n1_
      have BK101 := n2_
      have BK116 := n3_
      have HB := n4_
      clear n0_ n1_ n2_ n3_ n4_
      (try clear hb)
      (try clear hb2)
      (try clear hk)
      (try clear hi)
      (try clear ho0)
      obtain ⟨Ao34, co34, eo34⟩ := Kd.R_slice HO123.out
      (first | subst eo34 | (injection eo34 with f1_ f2_ f3_; have f4_ := f1_.symm; have f5_ := f3_.symm; clear f1_ f2_ f3_; subst f4_; subst f5_))
      refine hK.out _ _ ⟨(blk_cell BK116.out 0).trans rfl, (blk_cell BK116.out 1).trans rfl, (blk_cell BK116.out 2).trans rfl, (blk_cell BK116.out 3).trans rfl, (blk_cell BK101.out 0).trans rfl, (blk_cell BK101.out 1).trans rfl, (blk_cell BK101.out 2).trans rfl, (blk_cell BK101.out 3).trans rfl⟩ (fun hHeld => ?_)
      clear hK K
      refine norm_ (a' := ?_) ?_ ?_
      rotate_left
      ·
       show Act.put _ (some 24) _ = _
       simp only [Act.put, List.setIfInBounds_toArray, List.set_cons_zero, List.set_cons_succ, i64_w, i32_w]
       rfl
      refine one_ (i := 3) (N := some 25) #[true, true, true, true, false] rfl rfl (by kernel_rfl) (by decide) (fun K hK => ?_)
      refine goes_ Tryd.func13 (by kernel_rfl) rfl #[.agg #[.int .i64 t110, .int .i64 t111, .int .i64 t112, .slice Ao22 t113.length co22], .agg #[.int .i64 t118, .int .i64 t119, .int .i64 t120, .slice Ao34 t121.length co34]] (by rfl) rfl rfl zjnmae ?_
      with_reducible refine (laws_eqRequest.calls kj11 t110 t111 t112 _ _ t113 t118 t119 t120 _ _ t121 false _ ?side1 ?side2 ?side3 ?side4 A26.out).mono ?_
      (case side1 => exact zkioha)
      (case side2 => exact (Kd.R_reads' HO_117003.out).2.1)
      (case side3 => exact zbikob)
      (case side4 => exact (Kd.R_reads' HO123.out).2.1)
      rintro e w35 ⟨rfl, hb⟩
      refine ⟨_, rfl, ?_⟩
      replace HO_117003 := aa (Kd.R_below (zcaken HO_117003.out) hb)
      replace HO123 := aa (Kd.R_below (zcaken HO123.out) hb)
      replace BK101 := aa (bb_ BK101.out hb)
      replace BK116 := aa (bb_ BK116.out hb)
      replace HB := aa (below_step zajogn hb)
      (try clear hb)
      (try clear hb2)
      (try clear hk)
      (try clear hi)
      refine hK.out _ _ ⟨(blk_cell BK116.out 0).trans rfl, (blk_cell BK116.out 1).trans rfl, (blk_cell BK116.out 2).trans rfl, (blk_cell BK116.out 3).trans rfl, (blk_cell BK101.out 0).trans rfl, (blk_cell BK101.out 1).trans rfl, (blk_cell BK101.out 2).trans rfl, (blk_cell BK101.out 3).trans rfl⟩ (fun hHeld => ?_)
      clear hK K
      refine norm_ (a' := ?_) ?_ ?_
      rotate_left
      ·
       show Act.put _ (some 25) _ = _
       simp only [Act.put, List.setIfInBounds_toArray, List.set_cons_zero, List.set_cons_succ, i64_w, i32_w]
       rfl
      refine pure_ (i := 4) (N := some 26) (v := ?_) (a' := ?_) #[true, true, true, true, true] rfl rfl (by kernel_rfl) (fun _ _ _ h => h) (Or.inl ⟨by rfl, ?_⟩) ?_ ?_
      rotate_left
      ·
       intro w'
       go_simp
       with_reducible rfl
      rotate_left
      ·
       simp only [Act.put, List.setIfInBounds_toArray, List.set_cons_zero, List.set_cons_succ, i64_w, i32_w]
       rfl
      refine done_ (by kernel_rfl) ?_
      try go_wp2
      go_ret
      exact ⟨zlhpib, zajogn⟩
end Go.Proofs.YtbeghfdlbokhkaaDoor.Qc
/- Arguments laid open: what a value of a type holds in memory, by the print's kinds; for every type that is met here. -/
namespace Go.Proofs.YtbeghfdlbokhkaaDoor.Tro
open Go.ChangeShapes Go.WideShapes Go.RowKit Go.Deep Go.Proofs.YtbeghfdlbokhkaaDoorW.PrintWords

/-- What can be read as data of type T holds a value of this kind, of which 'good' is so. -/
def Tr {α : Type} (P : Program) (k : Kd α) (T : TypeId) (good : α → Prop) : Prop :=
  ∀ {H : Type} (enc : TypeId × Value → H) (w : World) (fuel : Nat) (cs : List Value) (x : DataW H × List MemPlace), DataW.trod enc P w 0 (fun _ => true) true fuel T cs = some x → ∃ a : α, k.K w a cs ∧ good a
theorem tr_int {P : Program} {T : TypeId} {k : IntKind} (h : P.underlying T = some (.int k)) : Tr P (Kd.int k) T (fun a => (Lit.int k a).wf = true) := by
  intro H enc w fuel cs x hx
  obtain ⟨n, rfl, _, hw⟩ := DataW.trod_int h hx
  exact ⟨n, rfl, hw⟩
theorem tr_bool {P : Program} {T : TypeId} (h : P.underlying T = some .bool) : Tr P Kd.bool T (fun _ => True) := by
  intro H enc w fuel cs x hx
  obtain ⟨b, rfl, _⟩ := DataW.trod_bool h hx
  exact ⟨b, rfl, trivial⟩
theorem tr_string {P : Program} {T : TypeId} (h : P.underlying T = some .string) : Tr P Kd.string T (fun s => s.size ≤ 9223372036854775807) := by
  intro H enc w fuel cs x hx
  obtain ⟨s, rfl, _, hs⟩ := DataW.trod_string h hx
  exact ⟨s, rfl, hs⟩
theorem choose_list {α : Type} {p : Nat → α → Prop} : ∀ n : Nat, (∀ i, i < n → ∃ a, p i a) → ∃ xs : List α, xs.length = n ∧ ∀ i a, xs[i]? = some a → p i a
  | 0, _ => ⟨[], rfl, fun i a h => by simp at h⟩
  | n + 1, h => by
    obtain ⟨xs, hl, hx⟩ := choose_list n (fun i hi => h i (by omega))
    obtain ⟨a, ha⟩ := h n (by omega)
    refine ⟨xs ++ [a], by simp [hl], fun i b hb => ?_⟩
    rcases Nat.lt_or_ge i xs.length with hi | hi
    · rw [List.getElem?_append_left hi] at hb
      exact hx i b hb
    · rw [List.getElem?_append_right hi] at hb
      have hi' : i = xs.length := by
        rcases Nat.eq_or_lt_of_le hi with e | e
        · exact e.symm
        · rw [List.getElem?_eq_none (by simp; omega)] at hb
          cases hb
      subst hi'
      rw [Nat.sub_self] at hb
      cases hb
      rw [hl]
      exact ha
theorem tr_slice {α : Type} {P : Program} {T e : TypeId} {d : Kd α} {good : α → Prop} (h : P.underlying T = some (.slice e)) (hz : d.sz = P.cellsOf e) (he : Tr P d e good) :
    Tr P (Kd.slice e d) T (fun xs => xs.length ≤ 9223372036854775807 ∧ ∀ x ∈ xs, good x) := by
  intro H enc w fuel cs x hx
  rcases open_slice h hx with ⟨rfl, _⟩ | ⟨a, len, cap, m, n, D, Pl, rfl, _, hl, hm, hmm, _, hi⟩
  · exact ⟨[], ⟨none, 0, rfl, Nat.le_refl _, rfl, Nat.zero_le _, fun h0 => absurd h0 (Nat.lt_irrefl 0)⟩, Nat.zero_le _, fun x hx => by simp at hx⟩
  · have hmc : m = cap := by simpa using hmm
    have hcap : cap ≤ 9223372036854775807 := hm
    obtain ⟨xs, hxl, hxs⟩ := choose_list (p := fun i b => (∃ c, c.length = d.sz ∧ d.K w b c ∧ ∀ j u, c[j]? = some u → w.cell? (a.add (i * d.sz + j)) = some u) ∧ good b) len (fun i hil => by
      obtain ⟨cs', hc, ht⟩ := hi i (by omega)
      obtain ⟨b, hb, hg⟩ := he enc w n cs' _ ht
      refine ⟨b, ⟨cs', d.K_len hb, hb, fun j u hu => ?_⟩, hg⟩
      obtain ⟨_, hcl, hat⟩ := World.cells?_some hc
      have hj : j < P.cellsOf e := by rw [← hcl]; exact (List.getElem?_eq_some_iff.1 hu).1
      have := hat j hj
      rw [hz, ← Go.Deep.add_add, this, hu])
    refine ⟨xs, ⟨some a, cap, by rw [hxl], by omega, rfl, by omega, fun _ => ⟨a, rfl, fun j p hp => (hxs j p hp).1⟩⟩, by omega, fun b hb => ?_⟩
    obtain ⟨i, hil, he⟩ := List.getElem_of_mem hb
    exact (hxs i b (by rw [← he]; exact List.getElem?_eq_getElem hil)).2
end Go.Proofs.YtbeghfdlbokhkaaDoor.Tro

namespace Go.Proofs.YtbeghfdlbokhkaaDoor.Qc
open Go.RowKit Go.Proofs.YtbeghfdlbokhkaaDoorW.PrintWords Go.Proofs.YtbeghfdlbokhkaaDoorW.PrintLast Go.Proofs.YtbeghfdlbokhkaaDoorW.PrintMore Go.ChangeShapes Go.WideShapes Go.Proofs.YtbeghfdlbokhkaaDoor.Tro
attribute [local go_sem] max2_int min2_int max_two min_two max_three min_three max_four min_four   -- for this text's walks alone
set_option linter.unusedVariables false
set_option linter.unusedSimpArgs false
def g23 (x_ : S23) : Prop := ((Lit.int .i64 x_.f0).wf = true) ∧ (x_.f1.size ≤ 9223372036854775807) ∧ ((Lit.int .i64 x_.f2).wf = true) ∧ ((Lit.int .i64 x_.f3).wf = true) ∧ (True) ∧ (True)
set_option maxRecDepth 100000 in
theorem tr23 : Tr Tryd.prog k23 23 g23 := by
  intro H enc w fuel cs x hx
  obtain ⟨ys, n, _, _, hlen, hyl, hf⟩ := DataW.trod_struct Tryd.underlying23 hx
  have hl : cs.length = 6 := hlen.trans (by kernel_rfl)
  have hy : ys.length = 6 := hyl
  clear hlen hyl hx
  match cs, hl with
  | [c0, c1, c2, c3, c4, c5], _ =>
    have q0 : DataW.trod enc Tryd.prog w 0 (fun _ => true) true n 2 ((([c0, c1, c2, c3, c4, c5] : List Value).drop 0).take (Tryd.prog.cellsOf 2)) = ys[0]? := hf 0 _ rfl
    rw [show Tryd.prog.cellsOf 2 = 1 from by kernel_rfl] at q0
    rw [List.getElem?_eq_getElem (show 0 < ys.length by omega)] at q0
    obtain ⟨a0, h0, g0⟩ := (tr_int Tryd.underlying2) enc w n [c0] _ q0
    have q1 : DataW.trod enc Tryd.prog w 0 (fun _ => true) true n 9 ((([c0, c1, c2, c3, c4, c5] : List Value).drop 1).take (Tryd.prog.cellsOf 9)) = ys[1]? := hf 1 _ rfl
    rw [show Tryd.prog.cellsOf 9 = 1 from by kernel_rfl] at q1
    rw [List.getElem?_eq_getElem (show 1 < ys.length by omega)] at q1
    obtain ⟨a1, h1, g1⟩ := (tr_string Tryd.underlying9) enc w n [c1] _ q1
    have q2 : DataW.trod enc Tryd.prog w 0 (fun _ => true) true n 2 ((([c0, c1, c2, c3, c4, c5] : List Value).drop 2).take (Tryd.prog.cellsOf 2)) = ys[2]? := hf 2 _ rfl
    rw [show Tryd.prog.cellsOf 2 = 1 from by kernel_rfl] at q2
    rw [List.getElem?_eq_getElem (show 2 < ys.length by omega)] at q2
    obtain ⟨a2, h2, g2⟩ := (tr_int Tryd.underlying2) enc w n [c2] _ q2
    have q3 : DataW.trod enc Tryd.prog w 0 (fun _ => true) true n 2 ((([c0, c1, c2, c3, c4, c5] : List Value).drop 3).take (Tryd.prog.cellsOf 2)) = ys[3]? := hf 3 _ rfl
    rw [show Tryd.prog.cellsOf 2 = 1 from by kernel_rfl] at q3
    rw [List.getElem?_eq_getElem (show 3 < ys.length by omega)] at q3
    obtain ⟨a3, h3, g3⟩ := (tr_int Tryd.underlying2) enc w n [c3] _ q3
    have q4 : DataW.trod enc Tryd.prog w 0 (fun _ => true) true n 4 ((([c0, c1, c2, c3, c4, c5] : List Value).drop 4).take (Tryd.prog.cellsOf 4)) = ys[4]? := hf 4 _ rfl
    rw [show Tryd.prog.cellsOf 4 = 1 from by kernel_rfl] at q4
    rw [List.getElem?_eq_getElem (show 4 < ys.length by omega)] at q4
    obtain ⟨a4, h4, g4⟩ := (tr_bool Tryd.underlying4) enc w n [c4] _ q4
    have q5 : DataW.trod enc Tryd.prog w 0 (fun _ => true) true n 4 ((([c0, c1, c2, c3, c4, c5] : List Value).drop 5).take (Tryd.prog.cellsOf 4)) = ys[5]? := hf 5 _ rfl
    rw [show Tryd.prog.cellsOf 4 = 1 from by kernel_rfl] at q5
    rw [List.getElem?_eq_getElem (show 5 < ys.length by omega)] at q5
    obtain ⟨a5, h5, g5⟩ := (tr_bool Tryd.underlying4) enc w n [c5] _ q5
    exact ⟨⟨a0, a1, a2, a3, a4, a5⟩, ⟨[c0], [c1, c2, c3, c4, c5], rfl, h0, ⟨[c1], [c2, c3, c4, c5], rfl, h1, ⟨[c2], [c3, c4, c5], rfl, h2, ⟨[c3], [c4, c5], rfl, h3, ⟨[c4], [c5], rfl, h4, h5⟩⟩⟩⟩⟩, ⟨g0, g1, g2, g3, g4, g5⟩⟩
def g31 (x_ : S31) : Prop := ((Lit.int .i64 x_.f0).wf = true) ∧ ((Lit.int .i64 x_.f1).wf = true) ∧ ((Lit.int .i64 x_.f2).wf = true) ∧ (x_.f3.length ≤ 9223372036854775807 ∧ ∀ y_ ∈ x_.f3, g23 y_)
set_option maxRecDepth 100000 in
theorem tr31 : Tr Tryd.prog k31 31 g31 := by
  intro H enc w fuel cs x hx
  obtain ⟨ys, n, _, _, hlen, hyl, hf⟩ := DataW.trod_struct Tryd.underlying31 hx
  have hl : cs.length = 4 := hlen.trans (by kernel_rfl)
  have hy : ys.length = 4 := hyl
  clear hlen hyl hx
  match cs, hl with
  | [c0, c1, c2, c3], _ =>
    have q0 : DataW.trod enc Tryd.prog w 0 (fun _ => true) true n 2 ((([c0, c1, c2, c3] : List Value).drop 0).take (Tryd.prog.cellsOf 2)) = ys[0]? := hf 0 _ rfl
    rw [show Tryd.prog.cellsOf 2 = 1 from by kernel_rfl] at q0
    rw [List.getElem?_eq_getElem (show 0 < ys.length by omega)] at q0
    obtain ⟨a0, h0, g0⟩ := (tr_int Tryd.underlying2) enc w n [c0] _ q0
    have q1 : DataW.trod enc Tryd.prog w 0 (fun _ => true) true n 2 ((([c0, c1, c2, c3] : List Value).drop 1).take (Tryd.prog.cellsOf 2)) = ys[1]? := hf 1 _ rfl
    rw [show Tryd.prog.cellsOf 2 = 1 from by kernel_rfl] at q1
    rw [List.getElem?_eq_getElem (show 1 < ys.length by omega)] at q1
    obtain ⟨a1, h1, g1⟩ := (tr_int Tryd.underlying2) enc w n [c1] _ q1
    have q2 : DataW.trod enc Tryd.prog w 0 (fun _ => true) true n 2 ((([c0, c1, c2, c3] : List Value).drop 2).take (Tryd.prog.cellsOf 2)) = ys[2]? := hf 2 _ rfl
    rw [show Tryd.prog.cellsOf 2 = 1 from by kernel_rfl] at q2
    rw [List.getElem?_eq_getElem (show 2 < ys.length by omega)] at q2
    obtain ⟨a2, h2, g2⟩ := (tr_int Tryd.underlying2) enc w n [c2] _ q2
    have q3 : DataW.trod enc Tryd.prog w 0 (fun _ => true) true n 29 ((([c0, c1, c2, c3] : List Value).drop 3).take (Tryd.prog.cellsOf 29)) = ys[3]? := hf 3 _ rfl
    rw [show Tryd.prog.cellsOf 29 = 1 from by kernel_rfl] at q3
    rw [List.getElem?_eq_getElem (show 3 < ys.length by omega)] at q3
    obtain ⟨a3, h3, g3⟩ := (tr_slice Tryd.underlying29 (by kernel_rfl) tr23) enc w n [c3] _ q3
    exact ⟨⟨a0, a1, a2, a3⟩, ⟨[c0], [c1, c2, c3], rfl, h0, ⟨[c1], [c2, c3], rfl, h1, ⟨[c2], [c3], rfl, h2, h3⟩⟩⟩, ⟨g0, g1, g2, g3⟩⟩
end Go.Proofs.YtbeghfdlbokhkaaDoor.Qc
/- Small laws of the pure side: what ends, step by step; whole numbers; lists by places. -/
namespace Go.Proofs.YtbeghfdlbokhkaaDoor.Aid
open Go.RowKit Go.Proofs.YtbeghfdlbokhkaaDoorW.PrintWords

theorem wrap_id {x : Int} (h0 : -9223372036854775808 ≤ x) (h1 : x ≤ 9223372036854775807) : wrap64 x = x := by
  unfold wrap64
  omega
theorem wrap_up {i n : Nat} (h : i < n) (hn : n ≤ 4611686018427387904) : wrap64 ((i : Int) + 1) = ((i + 1 : Nat) : Int) := by
  rw [wrap_id (by omega) (by omega)]
  omega
theorem wf_lo {x : Int} (h : (Lit.int .i64 x).wf = true) : -9223372036854775808 ≤ x ∧ x ≤ 9223372036854775807 := by
  have h' : (decide (IntKind.i64.min ≤ x) && decide (x ≤ IntKind.i64.max)) = true := h
  simp only [Bool.and_eq_true, decide_eq_true_eq] at h'
  exact h'
/-- One round, then what is known of the rest. -/
theorem ev_step {α : Type} {g : Nat → Option α} (f : Nat → Option α) {r : α} (h : ∀ k, g (k + 1) = f k) (k : Ev f r) : Ev g r := Ev.step h k
theorem ev_done {α : Type} {g : Nat → Option α} {r : α} (h : ∀ k, g (k + 1) = some r) : Ev g r := Ev.step h (Ev.now r)
theorem ev_is {α : Type} {g : Nat → Option α} {r : α} (h : ∀ k, g k = some r) : Ev g r := ⟨0, fun k _ => h k⟩
/-- A call whose answer is known, then the rest. -/
theorem ev_call {α β : Type} {g : Nat → Option α} {f : Nat → α → Option β} {a : α} {r : β} (h : Ev g a) (k : Ev (fun n => f n a) r) : Ev (fun n => (g n).bind (f n)) r := Ev.bind h k
theorem ev_cong {α : Type} {g f : Nat → Option α} {r : α} (h : ∀ k, g k = f k) (k : Ev f r) : Ev g r := Ev.congr h k
theorem rd_at {l : List Int} {i : Nat} (h : i < l.length) : rd l (i : Int) = l[i] := by
  unfold rd
  rw [Int.toNat_natCast, List.getD_eq_getElem?_getD, List.getElem?_eq_getElem h]
  rfl
theorem drop_at {α : Type} {l : List α} {i : Nat} (h : i < l.length) : l.drop i = l[i] :: l.drop (i + 1) := List.drop_eq_getElem_cons h
theorem drop_end {α : Type} {l : List α} {i : Nat} (h : l.length ≤ i) : l.drop i = [] := List.drop_eq_nil_of_le h
theorem rd_set_at {l : List Int} {i : Nat} {v : Int} (h : i < l.length) : rd (l.set i v) (i : Int) = v := by
  rw [rd_at (by simpa using h)]
  simp
theorem rdOf_at {α : Type} {z : α} {l : List α} {i : Nat} (h : i < l.length) : rdOf z l (i : Int) = l[i] := by
  unfold rdOf
  rw [Int.toNat_natCast, List.getD_eq_getElem?_getD, List.getElem?_eq_getElem h]
  rfl
theorem rdOf_set_at {α : Type} {z : α} {l : List α} {i : Nat} {v : α} (h : i < l.length) : rdOf z (l.set i v) (i : Int) = v := by
  rw [rdOf_at (by simpa using h)]
  simp
theorem take_set_snoc {α : Type} {l : List α} {i : Nat} {v : α} (h : i < l.length) : (l.set i v).take (i + 1) = l.take i ++ [v] := by
  rw [List.take_succ_eq_append_getElem (by simpa using h), List.take_set_of_le (Nat.le_refl i)]
  simp
theorem take_set_next {α : Type} {m L : List α} {i : Nat} {v : α} (h : i < m.length) (h' : i < L.length) (ht : m.take i = L.take i) (hv : L[i] = v) : (m.set i v).take (i + 1) = L.take (i + 1) := by
  rw [take_set_snoc h, List.take_succ_eq_append_getElem h', ht, hv]
theorem wr1_ (m : Int) (h0 : -9223372036854775808 ≤ m + 1) (h1 : m + 1 ≤ 9223372036854775807) : wrap64 (m + 1) = m + 1 := wrap_id h0 h1
theorem wrn_ (m j j1 : Int) (e : j + 1 = j1) (h0 : -9223372036854775808 ≤ m + j + 1) (h1 : m + j + 1 ≤ 9223372036854775807) : wrap64 (m + j + 1) = m + j1 := by
  rw [wrap_id h0 h1]
  omega
theorem size_strOfNums (xs : List Int) : (strOfNums xs).size = xs.length := by
  simp [strOfNums, ByteArray.size]
theorem tdiv_lt {x : Int} (h : 0 < x) : 0 ≤ Int.tdiv x 10 ∧ Int.tdiv x 10 + 1 ≤ x := by
  have : Int.tdiv x 10 = x / 10 := Int.tdiv_eq_ediv_of_nonneg (by omega)
  rw [this]
  omega
/-- Where what is so stands ahead of what is not: how many are so is the place. -/
theorem take_pos {α : Type} (p : α → Bool) (l : List α) (hm : l.Pairwise (fun x y => p y = true → p x = true)) : ∀ j (hj : j < l.length), p l[j] = true ↔ j < (l.takeWhile p).length := by
  induction l with
  | nil => intro j hj; simp at hj
  | cons x l ih =>
    intro j hj
    obtain ⟨h1, h2⟩ := List.pairwise_cons.1 hm
    cases hx : p x with
    | true =>
      rw [List.takeWhile_cons_of_pos hx]
      cases j with
      | zero => simp [hx]
      | succ j => simpa using ih h2 j (by simpa using hj)
    | false =>
      rw [List.takeWhile_cons_of_neg (by simp [hx])]
      cases j with
      | zero => simp [hx]
      | succ j =>
        have hj' : j < l.length := by simpa using hj
        have : p l[j] = true → False := fun h => by
          have := h1 l[j] (List.getElem_mem hj') h
          rw [hx] at this
          cases this
        simp
        exact Bool.eq_false_iff.2 this
theorem take_pos_le {α : Type} (p : α → Bool) (l : List α) : (l.takeWhile p).length ≤ l.length := (List.takeWhile_prefix p).length_le
theorem mid_eq {a b : Nat} (h : a + b ≤ 4611686018427387904) : wrap64 ((IntKind.u64.wrap (wrap64 ((a : Int) + (b : Int)))) / 2) = ((((a + b) / 2 : Nat)) : Int) := by
  have e : wrap64 ((a : Int) + (b : Int)) = ((a + b : Nat) : Int) := by rw [wrap_id (by omega) (by omega)]; omega
  have e2 : IntKind.u64.wrap (((a + b : Nat)) : Int) = ((a + b : Nat) : Int) := by
    have : IntKind.u64.wrap (((a + b : Nat)) : Int) = (((a + b : Nat)) : Int) % 18446744073709551616 := rfl
    rw [this]
    omega
  rw [e, e2, wrap_id (by omega) (by omega)]
  omega
end Go.Proofs.YtbeghfdlbokhkaaDoor.Aid

namespace Go.Proofs.YtbeghfdlbokhkaaDoor.Qc
open Go.RowKit Go.Proofs.YtbeghfdlbokhkaaDoorW.PrintWords Go.Proofs.YtbeghfdlbokhkaaDoorW.PrintLast Go.Proofs.YtbeghfdlbokhkaaDoor.Aid
set_option linter.unusedVariables false
set_option linter.unusedSimpArgs false
theorem rd_T31_at {l : List (S31)} {i : Nat} (h : i < l.length) : rd_T31 l (i : Int) = l[i] := by
  unfold rd_T31
  rw [Int.toNat_natCast, List.getD_eq_getElem?_getD, List.getElem?_eq_getElem h]
  rfl
theorem rd_T31_set {l : List (S31)} {i : Nat} {v : S31} (h : i < l.length) : rd_T31 (l.set i v) (i : Int) = v := by
  rw [rd_T31_at (by simpa using h)]
  simp
theorem rd_T36_at {l : List (S36)} {i : Nat} (h : i < l.length) : rd_T36 l (i : Int) = l[i] := by
  unfold rd_T36
  rw [Int.toNat_natCast, List.getD_eq_getElem?_getD, List.getElem?_eq_getElem h]
  rfl
theorem rd_T36_set {l : List (S36)} {i : Nat} {v : S36} (h : i < l.length) : rd_T36 (l.set i v) (i : Int) = v := by
  rw [rd_T36_at (by simpa using h)]
  simp
theorem rd_T23_at {l : List (S23)} {i : Nat} (h : i < l.length) : rd_T23 l (i : Int) = l[i] := by
  unfold rd_T23
  rw [Int.toNat_natCast, List.getD_eq_getElem?_getD, List.getElem?_eq_getElem h]
  rfl
theorem rd_T23_set {l : List (S23)} {i : Nat} {v : S23} (h : i < l.length) : rd_T23 (l.set i v) (i : Int) = v := by
  rw [rd_T23_at (by simpa using h)]
  simp
theorem rd_T26_at {l : List (S26)} {i : Nat} (h : i < l.length) : rd_T26 l (i : Int) = l[i] := by
  unfold rd_T26
  rw [Int.toNat_natCast, List.getD_eq_getElem?_getD, List.getElem?_eq_getElem h]
  rfl
theorem rd_T26_set {l : List (S26)} {i : Nat} {v : S26} (h : i < l.length) : rd_T26 (l.set i v) (i : Int) = v := by
  rw [rd_T26_at (by simpa using h)]
  simp
def cvOp (x : S23) : S26 := (⟨x.f0, x.f1, x.f2, x.f3, x.f4, x.f5⟩ : S26)
theorem laws_toOp.is (x : S23) : laws_toOp.f x.f0 x.f1 x.f2 x.f3 x.f4 x.f5 = some (x.f0, x.f1, x.f2, x.f3, x.f4, x.f5) := by
  rfl
theorem laws_eqOp.is (x : S26) : laws_eqOp.f x.f0 x.f1 x.f2 x.f3 x.f4 x.f5 x.f0 x.f1 x.f2 x.f3 x.f4 x.f5 = some true := by
  simp [laws_eqOp.f]
theorem laws_szOp.is (x : S23) (a : Int) (hx : x.f1.size ≤ 9223372036854775807) (h0 : 0 ≤ a) (h1 : a ≤ 1048576) : laws_szOp.f x.f0 x.f1 x.f2 x.f3 x.f4 x.f5 a = some (if a - (x.f1.size : Int) < 0 then -1 else a - (x.f1.size : Int)) := by
  unfold laws_szOp.f
  rw [wrap_id (by omega) (by omega)]
  by_cases h : a - (x.f1.size : Int) < 0
  · rw [if_pos h, if_pos h]
  · rw [if_neg h, if_neg h]
theorem laws_szOpS.l0_ev (l : List (S23)) (hl : l.length ≤ 4611686018427387904) (hx : ∀ x ∈ l, x.f1.size ≤ 9223372036854775807) (d : Nat) : ∀ (i : Nat) (a : Int), i + d = l.length → 0 ≤ a → a ≤ 1048576 → ∃ r : Int, Ev (fun k => laws_szOpS.l0 k l a (i : Int)) r ∧ (0 ≤ r → r ≤ a ∧ ∀ x ∈ l.drop i, (x.f1.size : Int) ≤ a) := by
  induction d with
  | zero =>
    intro i a h h0 h1
    refine ⟨a, ev_done fun k => ?_, fun _ => ⟨Int.le_refl _, ?_⟩⟩
    · simp only [laws_szOpS.l0]; rw [if_neg (by omega)]
    · rw [drop_end (by omega)]; intro x hx; cases hx
  | succ d ih =>
    intro i a h h0 h1
    have hi : i < l.length := by omega
    have hxi := hx l[i] (List.getElem_mem hi)
    by_cases hn : a - (l[i].f1.size : Int) < 0
    · refine ⟨-1, ev_done fun k => ?_, by omega⟩
      simp only [laws_szOpS.l0]; rw [if_pos (by omega), if_pos (by omega), rd_T23_at hi, laws_szOp.is _ _ hxi h0 h1, if_pos hn]; simp only [Option.bind_some]; rw [if_pos (by omega)]
    · obtain ⟨r, hr, hq⟩ := ih (i + 1) (a - (l[i].f1.size : Int)) (by omega) (by omega) (by omega)
      refine ⟨r, ev_step (fun k => laws_szOpS.l0 k l (a - (l[i].f1.size : Int)) ((i + 1 : Nat) : Int)) (fun k => ?_) hr, fun hr0 => ?_⟩
      · simp only [laws_szOpS.l0]; rw [if_pos (by omega), if_pos (by omega), rd_T23_at hi, laws_szOp.is _ _ hxi h0 h1, if_neg hn]; simp only [Option.bind_some]; rw [if_neg (by omega), wrap_up hi hl]
      · obtain ⟨h2, h3⟩ := hq hr0
        refine ⟨by omega, fun x hx' => ?_⟩
        rw [drop_at hi] at hx'
        rcases List.mem_cons.1 hx' with rfl | hx'
        · omega
        · have := h3 x hx'; omega
theorem laws_szOpS.ev (l : List (S23)) (a : Int) (hl : l.length ≤ 9223372036854775807) (hx : ∀ x ∈ l, x.f1.size ≤ 9223372036854775807) (h0 : 0 ≤ a) (h1 : a ≤ 1048576) : ∃ r : Int, Ev (fun k => laws_szOpS.f k l a) r ∧ (0 ≤ r → r ≤ a ∧ (l.length : Int) ≤ a ∧ ∀ x ∈ l, (x.f1.size : Int) ≤ a) := by
  unfold laws_szOpS.f
  by_cases h : a - (l.length : Int) < 0
  · refine ⟨-1, ev_is fun k => ?_, by omega⟩
    rw [wrap_id (by omega) (by omega), if_pos h]
  · obtain ⟨r, hr, hq⟩ := laws_szOpS.l0_ev l (by omega) hx l.length 0 (a - (l.length : Int)) (by omega) (by omega) (by omega)
    refine ⟨r, ev_cong (fun k => ?_) hr, fun hr0 => ?_⟩
    · rw [wrap_id (by omega) (by omega), if_neg h]; rfl
    · obtain ⟨h2, h3⟩ := hq hr0
      rw [List.drop_zero] at h3
      exact ⟨by omega, by omega, fun x hx' => by have := h3 x hx'; omega⟩
theorem laws_toOpS.l0_ev (l : List (S23)) (hl : l.length ≤ 4611686018427387904) (d : Nat) : ∀ (i : Nat) (m : List (S26)), i + d = l.length → m.length = l.length → m.take i = (l.map cvOp).take i → Ev (fun k => laws_toOpS.l0 k l m (i : Int)) (l.map cvOp) := by
  induction d with
  | zero =>
    intro i m h hm ht
    have e : m = (l.map cvOp) := by rw [List.take_of_length_le (by omega), List.take_of_length_le (by rw [List.length_map]; omega)] at ht; exact ht
    exact ev_done fun k => by simp only [laws_toOpS.l0]; rw [if_neg (by omega), e]
  | succ d ih =>
    intro i m h hm ht
    have hi : i < l.length := by omega
    have hi' : i < (l.map cvOp).length := by rw [List.length_map]; omega
    have hv : (l.map cvOp)[i] = (cvOp l[i]) := by rw [List.getElem_map]
    refine ev_step (fun k => laws_toOpS.l0 k l (m.set i (cvOp l[i])) ((i + 1 : Nat) : Int)) (fun k => ?_) (ih (i + 1) (m.set i (cvOp l[i])) (by omega) (by rw [List.length_set]; exact hm) ?_)
    · simp only [laws_toOpS.l0]; rw [if_pos (by omega), if_pos (by omega), rd_T23_at hi, laws_toOp.is]; simp only [Option.bind_some]; rw [if_pos (by omega), wrap_up hi hl, Int.toNat_natCast]; rfl
    · exact take_set_next (by omega) hi' ht hv
theorem laws_toOpS.ev (l : List (S23)) (hl : l.length ≤ 1048576) : Ev (fun k => laws_toOpS.f k l) (l.map cvOp) := by
  unfold laws_toOpS.f
  refine ev_cong (f := fun k => laws_toOpS.l0 k l (List.replicate l.length z26) ((0 : Nat) : Int)) (fun k => ?_) (laws_toOpS.l0_ev l (by omega) l.length 0 _ (by omega) (by simp) (by simp))
  rw [if_pos (by omega), if_pos (by rw [Int.toNat_natCast]; omega), Int.toNat_natCast]; rfl
theorem laws_eqOpS.l0_ev (l : List (S26)) (hl : l.length ≤ 4611686018427387904) (d : Nat) : ∀ (i : Nat), i + d = l.length → Ev (fun k => laws_eqOpS.l0 k l l (i : Int)) true := by
  induction d with
  | zero => exact fun i h => ev_done fun k => by simp only [laws_eqOpS.l0]; rw [if_neg (by omega)]
  | succ d ih =>
    intro i h
    have hi : i < l.length := by omega
    refine ev_step (fun k => laws_eqOpS.l0 k l l ((i + 1 : Nat) : Int)) (fun k => ?_) (ih (i + 1) (by omega))
    simp only [laws_eqOpS.l0]; rw [if_pos (by omega), if_pos (by omega), if_pos (by omega), laws_eqOp.is, Option.bind_some, if_pos rfl, wrap_up hi hl]
theorem laws_eqOpS.ev (l : List (S26)) (hl : l.length ≤ 4611686018427387904) : Ev (fun k => laws_eqOpS.f k l l) true := by
  unfold laws_eqOpS.f
  exact ev_cong (fun k => if_pos rfl) (laws_eqOpS.l0_ev l hl l.length 0 (by omega))
end Go.Proofs.YtbeghfdlbokhkaaDoor.Qc
/- A number within bounds, by the program and by the reference. -/
namespace Go.Proofs.YtbeghfdlbokhkaaDoor.Pure
open Go.RowKit Go.Proofs.YtbeghfdlbokhkaaDoor.Qc Go.Proofs.YtbeghfdlbokhkaaDoorW.PrintWords Go.Proofs.YtbeghfdlbokhkaaDoorW.PrintLast Go.Proofs.YtbeghfdlbokhkaaDoor.Aid
theorem spec_l1In_is (a lo hi : Int) : spec_l1In.f a lo hi = some (decide (lo ≤ a ∧ a ≤ hi)) := by
  unfold spec_l1In.f
  by_cases h : lo ≤ a
  · rw [if_pos h]; simp [h]
  · rw [if_neg h]; simp [h]
theorem impl_within_is (a lo hi : Int) : impl_within.f a lo hi = some (decide (lo ≤ a ∧ a ≤ hi)) := by
  unfold impl_within.f
  by_cases h : lo ≤ a
  · rw [if_pos h]; simp [h]
  · rw [if_neg h]; simp [h]
end Go.Proofs.YtbeghfdlbokhkaaDoor.Pure

/- Names: what is one, by the program and by the reference: the same, for every text. -/
namespace Go.Proofs.YtbeghfdlbokhkaaDoor.Pure
open Go.RowKit Go.Proofs.YtbeghfdlbokhkaaDoor.Qc Go.Proofs.YtbeghfdlbokhkaaDoorW.PrintWords Go.Proofs.YtbeghfdlbokhkaaDoorW.PrintLast Go.Proofs.YtbeghfdlbokhkaaDoor.Aid

theorem bt_at {s : ByteArray} {i : Nat} (h : i < s.data.toList.length) : bt s (i : Int) = ((s.data.toList[i]).toNat : Int) := by
  have h' : (i : Int).toNat < s.size := by rw [Int.toNat_natCast]; exact h
  unfold bt
  rw [dif_pos h']
  rfl
theorem size_list (s : ByteArray) : s.size = s.data.toList.length := rfl
/-- A sign of a name. -/
def okU (c : UInt8) : Bool := (decide (97 ≤ c.toNat) && decide (c.toNat ≤ 122)) || (decide (48 ≤ c.toNat) && decide (c.toNat ≤ 57))
def nameB (s : ByteArray) : Bool := s.data.toList.all okU && decide (1 ≤ (s.size : Int) ∧ (s.size : Int) ≤ 8)
theorem okU_true {c : UInt8} (h : okU c = true) : (97 ≤ (c.toNat : Int) ∧ (c.toNat : Int) ≤ 122) ∨ (48 ≤ (c.toNat : Int) ∧ (c.toNat : Int) ≤ 57) := by
  unfold okU at h
  simp only [Bool.or_eq_true, Bool.and_eq_true, decide_eq_true_eq] at h
  omega
theorem okU_false {c : UInt8} (h : okU c = false) : ¬ ((97 ≤ (c.toNat : Int) ∧ (c.toNat : Int) ≤ 122) ∨ (48 ≤ (c.toNat : Int) ∧ (c.toNat : Int) ≤ 57)) := by
  intro g
  have : okU c = true := by
    unfold okU
    simp only [Bool.or_eq_true, Bool.and_eq_true, decide_eq_true_eq]
    omega
  rw [h] at this
  cases this
theorem name_spec_l0 (s : ByteArray) (hl : s.size ≤ 4611686018427387904) (d : Nat) : ∀ (i : Nat), i + d = s.size → Ev (fun k => spec_l1Name.l0 k s (i : Int)) ((s.data.toList.drop i).all okU && decide (1 ≤ (s.size : Int) ∧ (s.size : Int) ≤ 8)) := by
  have hs := size_list s
  induction d with
  | zero =>
    intro i h
    rw [drop_end (by omega)]
    exact ev_done fun k => by simp only [spec_l1Name.l0]; rw [if_neg (by omega), spec_l1In_is]; rfl
  | succ d ih =>
    intro i h
    have hi : i < s.data.toList.length := by omega
    rw [drop_at hi, List.all_cons]
    cases c : okU s.data.toList[i] with
    | true =>
      have hc := okU_true c
      rw [Bool.true_and]
      refine ev_step (fun k => spec_l1Name.l0 k s ((i + 1 : Nat) : Int)) (fun k => ?_) (ih (i + 1) (by omega))
      simp only [spec_l1Name.l0]; rw [if_pos (by omega), if_pos (by omega), bt_at hi, wrap_up hi (by omega)]
      by_cases h1 : ((s.data.toList[i]).toNat : Int) < 97
      · rw [if_pos h1, if_neg (by omega), if_neg (by omega)]
      · rw [if_neg h1, if_neg (by omega)]
    | false =>
      have hc := okU_false c
      rw [Bool.false_and, Bool.false_and]
      refine ev_done fun k => ?_
      simp only [spec_l1Name.l0]; rw [if_pos (by omega), if_pos (by omega), bt_at hi]
      by_cases h1 : ((s.data.toList[i]).toNat : Int) < 97
      · rw [if_pos h1]
        by_cases h2 : ((s.data.toList[i]).toNat : Int) < 48
        · rw [if_pos h2]
        · rw [if_neg h2, if_pos (by omega)]
      · rw [if_neg h1, if_pos (by omega), if_neg (by omega), if_pos (by omega)]
theorem name_spec (s : ByteArray) (hl : s.size ≤ 4611686018427387904) : Ev (fun k => spec_l1Name.f k s) (nameB s) := by
  have h := name_spec_l0 s hl s.size 0 (by omega)
  rw [List.drop_zero] at h
  exact h
theorem name_impl_l0 (s : ByteArray) (hl : s.size ≤ 4611686018427387904) (d : Nat) : ∀ (i : Nat), i + d = s.size → Ev (fun k => impl_isName.l0 k s (s.size : Int) (i : Int)) ((s.data.toList.drop i).all okU && decide (1 ≤ (s.size : Int) ∧ (s.size : Int) ≤ 8)) := by
  have hs := size_list s
  induction d with
  | zero =>
    intro i h
    rw [drop_end (by omega)]
    exact ev_done fun k => by simp only [impl_isName.l0]; rw [if_neg (by omega), impl_within_is]; rfl
  | succ d ih =>
    intro i h
    have hi : i < s.data.toList.length := by omega
    rw [drop_at hi, List.all_cons]
    cases c : okU s.data.toList[i] with
    | true =>
      have hc := okU_true c
      rw [Bool.true_and]
      refine ev_step (fun k => impl_isName.l0 k s (s.size : Int) ((i + 1 : Nat) : Int)) (fun k => ?_) (ih (i + 1) (by omega))
      simp only [impl_isName.l0]; rw [if_pos (by omega), if_pos (by omega), if_pos (by omega), bt_at hi, wrap_up hi (by omega)]
      by_cases h1 : ((s.data.toList[i]).toNat : Int) < 97
      · rw [if_pos h1, if_neg (by omega), if_neg (by omega)]
      · rw [if_neg h1, if_neg (by omega)]
    | false =>
      have hc := okU_false c
      rw [Bool.false_and, Bool.false_and]
      refine ev_done fun k => ?_
      simp only [impl_isName.l0]; rw [if_pos (by omega), if_pos (by omega), if_pos (by omega), bt_at hi]
      by_cases h1 : ((s.data.toList[i]).toNat : Int) < 97
      · rw [if_pos h1]
        by_cases h2 : ((s.data.toList[i]).toNat : Int) < 48
        · rw [if_pos h2]
        · rw [if_neg h2, if_pos (by omega)]
      · rw [if_neg h1, if_pos (by omega), if_neg (by omega), if_pos (by omega)]
theorem name_impl (s : ByteArray) (hl : s.size ≤ 4611686018427387904) : Ev (fun k => impl_isName.f k s) (nameB s) := by
  have h := name_impl_l0 s hl s.size 0 (by omega)
  rw [List.drop_zero] at h
  exact h
end Go.Proofs.YtbeghfdlbokhkaaDoor.Pure

/- Paths: a text cut at the marks, by the program (strings.Split) and by the reference: the same; what is wrong with a path: the same, for every text. -/
namespace Go.Proofs.YtbeghfdlbokhkaaDoor.Pure
open Go.RowKit Go.Proofs.YtbeghfdlbokhkaaDoor.Qc Go.Proofs.YtbeghfdlbokhkaaDoorW.PrintWords Go.Proofs.YtbeghfdlbokhkaaDoorW.PrintLast Go.Proofs.YtbeghfdlbokhkaaDoor.Aid

def mkB (l : List UInt8) : ByteArray := ⟨⟨l⟩⟩
theorem eq_mk {t : ByteArray} {l : List UInt8} (h : t.data.toList = l) : t = mkB l := by subst h; rfl
theorem ext_list (s : ByteArray) (a b : Nat) : (s.extract a b).data.toList = (s.data.toList.drop a).take (b - a) := by
  rw [ByteArray.data_extract, Array.toList_extract]
theorem ext_mk (s : ByteArray) (a b : Nat) : s.extract a b = mkB ((s.data.toList.drop a).take (b - a)) := eq_mk (ext_list s a b)
theorem tl (s : ByteArray) : s.toList = s.data.toList := ByteArray.toList_eq s
/-- The pieces of a text between the marks; what stands ahead goes into the first one. -/
def splF : List UInt8 → List UInt8 → List (List UInt8)
  | P, [] => [P]
  | P, c :: l => if c = 47 then P :: splF [] l else splF (P ++ [c]) l
theorem splF_len (l : List UInt8) : ∀ P, (splF P l).length = l.count 47 + 1 := by
  induction l with
  | nil => intro P; rfl
  | cons c l ih =>
    intro P
    unfold splF
    by_cases h : c = 47
    · rw [if_pos h, List.length_cons, ih, h, List.count_cons_self]
    · rw [if_neg h, ih, List.count_cons_of_ne (by simpa using h)]
theorem splF_none (l : List UInt8) : ∀ P, l.count 47 = 0 → splF P l = [P ++ l] := by
  induction l with
  | nil => intro P _; simp [splF]
  | cons c l ih =>
    intro P h
    have hc : c ≠ 47 := fun e => by rw [e, List.count_cons_self] at h; omega
    rw [List.count_cons_of_ne (by simpa using hc)] at h
    unfold splF
    rw [if_neg hc, ih _ h, List.append_assoc]
    rfl
theorem splF_some (l : List UInt8) (h : 0 < l.count 47) : ∃ p, p < l.length ∧ Lib.indexByte l 47 = (p : Int) ∧ (∀ P, splF P l = (P ++ l.take p) :: splF [] (l.drop (p + 1))) ∧ (l.drop (p + 1)).count 47 + 1 = l.count 47 := by
  induction l with
  | nil => simp at h
  | cons c l ih =>
    by_cases hc : c = 47
    · subst hc
      refine ⟨0, by simp, by unfold Lib.indexByte; rfl, fun P => ?_, by simp⟩
      rw [show splF P (47 :: l) = P :: splF [] l from if_pos rfl]
      simp
    · rw [List.count_cons_of_ne (by simpa using hc)] at h ⊢
      obtain ⟨p, h1, h2, h3, h4⟩ := ih h
      refine ⟨p + 1, by simpa using h1, ?_, fun P => ?_, by simpa using h4⟩
      · unfold Lib.indexByte
        rw [if_neg (by simpa using hc), h2, if_neg (by simp)]
        omega
      · rw [show splF P (c :: l) = splF (P ++ [c]) l from if_neg hc, h3]
        simp
/-- The reference's cut. -/
theorem cut_l0 (s : ByteArray) (hs : s.size ≤ 4398046511104) (d : Nat) : ∀ (i f : Nat) (out : List ByteArray), i + d = s.size → f ≤ i → out.length ≤ i → Ev (fun k => spec_l1Cut.l0 k s 47 out (f : Int) (i : Int)) (out ++ (splF ((s.data.toList.drop f).take (i - f)) (s.data.toList.drop i)).map mkB) := by
  have hl := size_list s
  have fin : ∀ (n f : Nat) (out : List ByteArray), s.size < n → Ev (fun k => spec_l1Cut.l0 k s 47 out (f : Int) (n : Int)) out := fun n f out hn => ev_done fun k => by simp only [spec_l1Cut.l0]; rw [if_neg (by omega)]
  induction d with
  | zero =>
    intro i f out h hf ho
    have e : s.data.toList.drop i = [] := drop_end (by omega)
    rw [e]
    have hx := ext_mk s f i
    refine ev_step (fun k => spec_l1Cut.l0 k s 47 (out ++ [s.extract f i]) ((i + 1 : Nat) : Int) ((i + 1 : Nat) : Int)) (fun k => ?_) ?_
    · simp only [spec_l1Cut.l0]; rw [if_pos (by omega), if_pos (by omega), if_pos (by omega), if_pos (by omega), if_pos (by omega), wrap_id (by omega) (by omega)]; rfl
    · rw [hx]
      exact fin _ _ _ (by omega)
  | succ d ih =>
    intro i f out h hf ho
    have hi : i < s.data.toList.length := by omega
    rw [drop_at hi]
    by_cases c : s.data.toList[i] = 47
    · rw [splF, if_pos c]
      have IH := ih (i + 1) (i + 1) (out ++ [s.extract f i]) (by omega) (by omega) (by simp; omega)
      rw [Nat.sub_self, List.take_zero] at IH
      have e : out ++ (((s.data.toList.drop f).take (i - f)) :: splF [] (s.data.toList.drop (i + 1))).map mkB = (out ++ [s.extract f i]) ++ (splF [] (s.data.toList.drop (i + 1))).map mkB := by rw [ext_mk, List.map_cons, List.append_assoc]; rfl
      rw [e]
      refine ev_step (fun k => spec_l1Cut.l0 k s 47 (out ++ [s.extract f i]) ((i + 1 : Nat) : Int) ((i + 1 : Nat) : Int)) (fun k => ?_) IH
      simp only [spec_l1Cut.l0]; rw [if_pos (by omega), if_neg (by omega), if_pos (by omega), if_pos (by omega), bt_at hi, c, if_pos (show ((UInt8.toNat 47 : Nat) : Int) = 47 from rfl), if_pos (by omega), if_pos (by omega), if_pos (by omega), wrap_up hi (by omega)]; rfl
    · rw [splF, if_neg c]
      have e : (s.data.toList.drop f).take (i - f) ++ [s.data.toList[i]] = (s.data.toList.drop f).take (i + 1 - f) := by
        rw [show i + 1 - f = (i - f) + 1 by omega, List.take_succ_eq_append_getElem (by rw [List.length_drop]; omega)]
        congr 2
        rw [List.getElem_drop]
        congr 1
        omega
      rw [e]
      refine ev_step (fun k => spec_l1Cut.l0 k s 47 out (f : Int) ((i + 1 : Nat) : Int)) (fun k => ?_) (ih (i + 1) f out (by omega) (by omega) (by omega))
      have hne : ¬ (((s.data.toList[i]).toNat : Int) = 47) := fun e => c (by
        have e2 : (s.data.toList[i]).toNat = 47 := by omega
        exact UInt8.toNat_inj.1 e2)
      simp only [spec_l1Cut.l0]; rw [if_pos (by omega), if_neg (by omega), if_pos (by omega), if_pos (by omega), bt_at hi, if_neg hne, wrap_up hi (by omega)]
def pieces (s : ByteArray) : List ByteArray := (splF [] s.data.toList).map mkB
theorem pieces_len (s : ByteArray) : (pieces s).length = s.data.toList.count 47 + 1 := by unfold pieces; rw [List.length_map, splF_len]
theorem cut_spec (s : ByteArray) (hs : s.size ≤ 4398046511104) : Ev (fun k => spec_l1Cut.f k s 47) (pieces s) := by
  have h := cut_l0 s hs s.size 0 0 [] (by omega) (by omega) (by simp)
  rw [List.nil_append, Nat.sub_self, List.take_zero, List.drop_zero] at h
  exact h
theorem w_up (p : Nat) (h : p ≤ 4611686018427387904) : wrap64 ((p : Int) + 1) = ((p + 1 : Nat) : Int) := by rw [wrap_id (by omega) (by omega)]; omega
theorem w_one (p : Nat) (h : p ≤ 4611686018427387904) : wrap64 ((p : Int) + ((⟨#[47]⟩ : ByteArray).size : Int)) = ((p + 1 : Nat) : Int) := w_up p h
theorem w_zero (p : Nat) (h : p ≤ 4611686018427387904) : wrap64 ((p : Int) + 0) = (p : Int) := by rw [Int.add_zero]; exact wrap_id (by omega) (by omega)
/-- The program's cut. -/
theorem split_l0 (n : Nat) (hn : n ≤ 4398046511104) (d : Nat) : ∀ (i : Nat) (x : ByteArray) (a : List ByteArray), x.data.toList.count 47 = d → i + d = n → a.length = n + 1 → x.size ≤ 4398046511104 → Ev (fun k => strings_genSplit.l0 k x (⟨#[47]⟩ : ByteArray) 0 (n : Int) a (i : Int)) (a.take i ++ (splF [] x.data.toList).map mkB) := by
  have ix : ∀ x : ByteArray, strings_Index.f x (⟨#[47]⟩ : ByteArray) = some (Lib.indexByte x.data.toList 47) := fun x => if_pos rfl
  induction d with
  | zero =>
    intro i x a hc h ha hx
    have e : a.take i ++ (splF [] x.data.toList).map mkB = (a.set i x).take (i + 1) := by
      rw [splF_none _ _ hc, take_set_snoc (by omega)]
      rfl
    rw [e]
    refine ev_done fun k => ?_
    have q0 : ¬ ((i : Int) < (n : Int)) := by omega
    have q1 : (0 : Int) ≤ (i : Int) := by omega
    have q2 : (i : Int) < (a.length : Int) := by omega
    have q3 : (0 : Int) ≤ ((i + 1 : Nat) : Int) := by omega
    have q4 : ((i + 1 : Nat) : Int) ≤ (a.length : Int) := by omega
    have wi := w_up i (by omega)
    simp only [strings_genSplit.l0, wi, q0, q1, q2, q3, q4, if_true, if_false, Int.toNat_natCast]
  | succ d ih =>
    intro i x a hc h ha hx
    obtain ⟨p, h1, h2, h3, h4⟩ := splF_some x.data.toList (by omega)
    have hl := size_list x
    have e1 : x.extract 0 p = mkB (x.data.toList.take p) := by rw [ext_mk]; rfl
    have e2 : (x.extract (p + 1) x.size).data.toList = x.data.toList.drop (p + 1) := by rw [ext_list, List.take_of_length_le (by rw [List.length_drop]; omega)]
    have IH := ih (i + 1) (x.extract (p + 1) x.size) (a.set i (x.extract 0 p)) (by rw [e2]; omega) (by omega) (by rw [List.length_set]; exact ha) (by rw [size_list, e2, List.length_drop]; omega)
    have e : a.take i ++ (splF [] x.data.toList).map mkB = (a.set i (x.extract 0 p)).take (i + 1) ++ (splF [] (x.extract (p + 1) x.size).data.toList).map mkB := by
      rw [e2, h3, take_set_snoc (by omega), List.append_assoc, e1]
      rfl
    rw [e]
    refine ev_step (fun k => strings_genSplit.l0 k (x.extract (p + 1) x.size) (⟨#[47]⟩ : ByteArray) 0 (n : Int) (a.set i (x.extract 0 p)) ((i + 1 : Nat) : Int)) (fun k => ?_) IH
    have q0 : (i : Int) < (n : Int) := by omega
    have q1 : (0 : Int) ≤ (i : Int) := by omega
    have q2 : (i : Int) < (a.length : Int) := by omega
    have q3 : (0 : Int) ≤ ((p + 1 : Nat) : Int) := by omega
    have q4 : ((p + 1 : Nat) : Int) ≤ (x.size : Int) := by omega
    have q5 : (0 : Int) ≤ (p : Int) := by omega
    have q6 : (p : Int) ≤ (x.size : Int) := by omega
    have q7 : ¬ ((p : Int) < 0) := by omega
    have hp_ : p ≤ 4611686018427387904 := by omega
    have hi_ : i ≤ 4611686018427387904 := by omega
    have wi := w_up i hi_
    have w1 := w_one p hp_
    have w0 := w_zero p hp_
    simp only [strings_genSplit.l0]
    rw [if_pos q0, ix, Option.bind_some, h2, if_neg q7, w0, if_pos q5, if_pos q6, if_pos q1, if_pos q2, w1, if_pos q3, if_pos q4, wi, Int.toNat_natCast, Int.toNat_natCast, Int.toNat_natCast]
theorem split_impl (s : ByteArray) (hs : s.size ≤ 1099511627776) : Ev (fun k => strings_Split.f k s (⟨#[47]⟩ : ByteArray)) (pieces s) := by
  have hl := size_list s
  have hle : s.data.toList.count 47 ≤ s.size := by rw [hl]; exact List.count_le_length
  have h := split_l0 (s.data.toList.count 47) (by omega) (s.data.toList.count 47) 0 s (List.replicate (s.data.toList.count 47 + 1) (⟨#[]⟩ : ByteArray)) rfl (by omega) (by simp) (by omega)
  have ct : strings_Count.f s (⟨#[47]⟩ : ByteArray) = some ((s.data.toList.count 47 : Nat) : Int) := if_pos rfl
  have en : wrap64 (((s.data.toList.count 47 : Nat) : Int) + 1) = ((s.data.toList.count 47 + 1 : Nat) : Int) := by rw [wrap_id (by omega) (by omega)]; omega
  have hm : mn ((s.data.toList.count 47 + 1 : Nat) : Int) (wrap64 ((s.size : Int) + 1)) = ((s.data.toList.count 47 + 1 : Nat) : Int) := by
    rw [wrap_id (by omega) (by omega)]
    unfold mn
    by_cases h : (s.size : Int) + 1 < ((s.data.toList.count 47 + 1 : Nat) : Int)
    · omega
    · rw [if_neg h]
  have hm1 : wrap64 (((s.data.toList.count 47 + 1 : Nat) : Int) - 1) = ((s.data.toList.count 47 : Nat) : Int) := by rw [wrap_id (by omega) (by omega)]; omega
  rw [List.take_zero, List.nil_append] at h
  unfold strings_Split.f
  refine ev_call (a := pieces s) ?_ (Ev.now _)
  unfold strings_genSplit.f
  refine ev_cong (fun k => (if_neg (by omega)).trans ((if_neg (by rw [tl]; simp)).trans (if_pos (by omega)))) ?_
  simp only [ct, Option.bind_some, en]
  refine ev_step _ (fun k => ?_) h
  simp only [strings_genSplit.j0]; rw [hm, if_pos (by omega), if_pos (by omega), hm1, Int.toNat_natCast]; rfl
end Go.Proofs.YtbeghfdlbokhkaaDoor.Pure

/- What is wrong with a path: by the program and by the reference the same, for every text. -/
namespace Go.Proofs.YtbeghfdlbokhkaaDoor.Pure
open Go.RowKit Go.Proofs.YtbeghfdlbokhkaaDoor.Qc Go.Proofs.YtbeghfdlbokhkaaDoorW.PrintWords Go.Proofs.YtbeghfdlbokhkaaDoorW.PrintLast Go.Proofs.YtbeghfdlbokhkaaDoor.Aid

theorem splF_size (l : List UInt8) : ∀ P, ∀ x ∈ splF P l, x.length ≤ P.length + l.length := by
  induction l with
  | nil => intro P x hx; rw [splF, List.mem_singleton] at hx; subst hx; omega
  | cons c l ih =>
    intro P x hx
    unfold splF at hx
    by_cases h : c = 47
    · rw [if_pos h] at hx
      rcases List.mem_cons.1 hx with rfl | hx
      · omega
      · have := ih [] x hx; simp at this ⊢; omega
    · rw [if_neg h] at hx
      have := ih _ x hx
      simp at this ⊢
      omega
theorem pieces_size (s : ByteArray) : ∀ x ∈ pieces s, x.size ≤ s.size := by
  intro x hx
  obtain ⟨l, hl, rfl⟩ := List.mem_map.1 hx
  have := splF_size s.data.toList [] l hl
  have e : (mkB l).size = l.length := rfl
  rw [List.length_nil] at this
  rw [e, size_list s]
  omega
def headR (s : ByteArray) : ByteArray := rdOf ByteArray.empty (pieces s) 0
def namesR (s : ByteArray) : List ByteArray × Bool :=
  if s.data.toList = [47] then ([], true) else if (pieces s).length < 2 then ([], false) else if (headR s).data.toList = [] then (if ((pieces s).drop 1).all nameB = true then ((pieces s).drop 1, true) else ([], false)) else ([], false)
def faultR (s : ByteArray) : Int :=
  if 24 < s.size then 2 else if s.data.toList = [47] then 0 else if 5 < (pieces s).length then 2 else if (namesR s).2 = true then 0 else 5
theorem head_bne (s : ByteArray) : ((rdOf ByteArray.empty (pieces s) 0).toList != ([] : List UInt8)) = !decide ((headR s).data.toList = []) := by
  unfold headR
  rw [tl]
  by_cases h : (rdOf ByteArray.empty (pieces s) 0).data.toList = []
  · rw [h]; rfl
  · rw [decide_eq_false h]
    exact bne_iff_ne.2 h
theorem fault_l0 (W : List ByteArray) (hW : ∀ x ∈ W, x.size ≤ 1048576) (hl : W.length ≤ 1048576) (d : Nat) : ∀ (i : Nat), i + d = W.length → Ev (fun k => impl_PathFault.l0 k W (W.length : Int) (i : Int)) (if (W.drop i).all nameB = true then 0 else 5) := by
  induction d with
  | zero =>
    intro i h
    rw [drop_end (by omega)]
    exact ev_done fun k => by simp only [impl_PathFault.l0]; rw [if_neg (by omega)]; rfl
  | succ d ih =>
    intro i h
    have hi : i < W.length := by omega
    have hx := hW W[i] (List.getElem_mem hi)
    rw [drop_at hi, List.all_cons]
    refine ev_step _ (fun k => by simp only [impl_PathFault.l0]; rw [if_pos (by omega), if_pos (by omega), if_pos (by omega), rdOf_at hi, wrap_up hi (by omega)]) (ev_call (name_impl W[i] (by omega)) ?_)
    cases c : nameB W[i] with
    | true => exact ev_cong (fun k => if_pos rfl) (by rw [Bool.true_and]; exact ih (i + 1) (by omega))
    | false => exact ev_is fun k => if_neg (by simp)
theorem names_l0 (W : List ByteArray) (hW : ∀ x ∈ W, x.size ≤ 1048576) (hl : W.length ≤ 1048576) (h1 : 1 ≤ W.length) (d : Nat) : ∀ (i : Nat), i + d = W.length → Ev (fun k => spec_l1Names.l0 k W (i : Int)) (if (W.drop i).all nameB = true then (W.drop 1, true) else ([], false)) := by
  induction d with
  | zero =>
    intro i h
    rw [drop_end (by omega)]
    exact ev_done fun k => by simp only [spec_l1Names.l0]; rw [if_neg (by omega), if_pos (by omega)]; rfl
  | succ d ih =>
    intro i h
    have hi : i < W.length := by omega
    have hx := hW W[i] (List.getElem_mem hi)
    rw [drop_at hi, List.all_cons]
    refine ev_step _ (fun k => by simp only [spec_l1Names.l0]; rw [if_pos (by omega), if_pos (by omega), rdOf_at hi, wrap_up hi (by omega)]) (ev_call (name_spec W[i] (by omega)) ?_)
    cases c : nameB W[i] with
    | true => exact ev_cong (fun k => if_pos rfl) (by rw [Bool.true_and]; exact ih (i + 1) (by omega))
    | false => exact ev_is fun k => if_neg (by simp)
theorem pieces_le (s : ByteArray) : (pieces s).length ≤ s.size + 1 := by
  have : s.data.toList.count 47 ≤ s.data.toList.length := List.count_le_length
  rw [pieces_len, size_list]
  omega
theorem names_spec (s : ByteArray) (hs : s.size ≤ 24) : Ev (fun k => spec_l1Names.f k s) (namesR s) := by
  have hl := pieces_le s
  unfold spec_l1Names.f namesR
  by_cases h : s.data.toList = [47]
  · rw [if_pos h]
    exact ev_is fun k => if_pos (by rw [tl]; exact h)
  · rw [if_neg h]
    refine ev_cong (fun k => if_neg (by rw [tl]; exact h)) (ev_call (cut_spec s (by omega)) ?_)
    by_cases h2 : (pieces s).length < 2
    · rw [if_pos h2]
      exact ev_cong (fun k => if_pos (by omega)) (ev_done fun k => by simp only [spec_l1Names.j0]; exact if_pos trivial)
    · rw [if_neg h2]
      refine ev_cong (fun k => (if_neg (by omega)).trans (if_pos (by omega))) ?_
      rw [head_bne]
      by_cases h3 : (headR s).data.toList = []
      · rw [if_pos h3]
        refine ev_step _ (fun k => by simp only [spec_l1Names.j0]; rw [if_neg (by simp [h3])]) ?_
        exact names_l0 (pieces s) (fun x hx => by have := pieces_size s x hx; omega) (by omega) (by omega) ((pieces s).length - 1) 1 (by omega)
      · rw [if_neg h3]
        exact ev_done fun k => by simp only [spec_l1Names.j0]; exact if_pos (by simp [h3])
theorem fault_spec (s : ByteArray) : Ev (fun k => spec_l1Fault.f k s) (faultR s) := by
  unfold spec_l1Fault.f faultR
  by_cases h : 24 < s.size
  · rw [if_pos h]
    exact ev_cong (fun k => if_pos (by omega)) (ev_done fun k => by simp only [spec_l1Fault.j0]; exact if_pos trivial)
  · rw [if_neg h]
    have tail : Ev (fun k => spec_l1Fault.j0 k s false) (if (namesR s).2 = true then 0 else 5) := by
      refine ev_step _ (fun k => by simp only [spec_l1Fault.j0]; rw [if_neg (by simp)]) (ev_call (names_spec s (by omega)) ?_)
      exact ev_is fun k => by by_cases h4 : (namesR s).2 = true <;> simp [h4]
    refine ev_cong (fun k => if_neg (by omega)) ?_
    by_cases h47 : s.data.toList = [47]
    · rw [if_pos h47]
      refine ev_cong (fun k => if_pos (by rw [tl]; exact h47)) ?_
      have e : (namesR s).2 = true := by unfold namesR; rw [if_pos h47]
      rw [if_pos e] at tail
      exact tail
    · rw [if_neg h47]
      refine ev_cong (fun k => if_neg (by rw [tl]; exact h47)) (ev_call (cut_spec s (by omega)) ?_)
      by_cases h5 : 5 < (pieces s).length
      · rw [if_pos h5, show decide (((pieces s).length : Int) > 5) = true from decide_eq_true (by omega)]
        exact ev_done fun k => by simp only [spec_l1Fault.j0]; exact if_pos trivial
      · rw [if_neg h5, show decide (((pieces s).length : Int) > 5) = false from decide_eq_false (by omega)]
        exact tail
theorem fault_impl (s : ByteArray) : Ev (fun k => impl_PathFault.f k s) (faultR s) := by
  unfold impl_PathFault.f faultR
  by_cases h : 24 < s.size
  · rw [if_pos h]
    exact ev_cong (fun k => if_pos (by omega)) (ev_done fun k => by simp only [impl_PathFault.j0]; exact if_pos trivial)
  · rw [if_neg h]
    have ct : strings_Count.f s (⟨#[47]⟩ : ByteArray) = some ((s.data.toList.count 47 : Nat) : Int) := if_pos rfl
    have pl := pieces_len s
    have hl := pieces_le s
    refine ev_cong (fun k => (if_neg (by omega)).trans (by rw [ct, Option.bind_some])) ?_
    by_cases h47 : s.data.toList = [47]
    · rw [if_pos h47, h47]
      refine ev_done fun k => ?_
      simp only [impl_PathFault.j0]; rw [if_neg (by decide), if_pos (by rw [tl]; exact h47)]
    · rw [if_neg h47]
      by_cases h5 : 5 < (pieces s).length
      · rw [if_pos h5, show decide (((s.data.toList.count 47 : Nat) : Int) > 4) = true from decide_eq_true (by omega)]
        exact ev_done fun k => by simp only [impl_PathFault.j0]; exact if_pos trivial
      · rw [if_neg h5, show decide (((s.data.toList.count 47 : Nat) : Int) > 4) = false from decide_eq_false (by omega)]
        refine ev_step _ (fun k => by simp only [impl_PathFault.j0]; rw [if_neg (by simp), if_neg (by rw [tl]; exact h47)]) (ev_call (split_impl s (by omega)) ?_)
        unfold namesR
        rw [if_neg h47]
        by_cases h2 : (pieces s).length < 2
        · rw [if_pos h2, if_neg (by simp)]
          exact ev_cong (fun k => if_pos (by omega)) (ev_done fun k => by simp only [impl_PathFault.j1]; exact if_pos trivial)
        · rw [if_neg h2]
          refine ev_cong (fun k => (if_neg (by omega)).trans (if_pos (by omega))) ?_
          rw [head_bne]
          by_cases h3 : (headR s).data.toList = []
          · rw [if_pos h3]
            refine ev_step _ (fun k => by simp only [impl_PathFault.j1]; rw [if_neg (by simp [h3]), if_pos (by omega), Option.bind_some]) ?_
            have := fault_l0 ((pieces s).drop 1) (fun x hx => by have := pieces_size s x (List.mem_of_mem_drop hx); omega) (by rw [List.length_drop]; omega) ((pieces s).drop 1).length 0 (by omega)
            rw [List.drop_zero] at this
            by_cases h6 : ((pieces s).drop 1).all nameB = true
            · rw [if_pos h6] at this ⊢; exact this
            · rw [if_neg h6] at this ⊢; exact this
          · rw [if_neg h3, if_neg (by simp)]
            exact ev_done fun k => by simp only [impl_PathFault.j1]; exact if_pos (by simp [h3])
/-- What is known of a path that has no fault. -/
theorem fault_zero {s : ByteArray} (h : faultR s = 0) : s.size ≤ 24 ∧ (s.data.toList = [47] ∨ s.data.toList ≠ [47] ∧ namesR s = ((pieces s).drop 1, true) ∧ 0 < s.data.toList.count 47) := by
  unfold faultR at h
  by_cases h1 : 24 < s.size
  · rw [if_pos h1] at h; omega
  · rw [if_neg h1] at h
    refine ⟨by omega, ?_⟩
    by_cases h2 : s.data.toList = [47]
    · exact .inl h2
    · rw [if_neg h2] at h
      refine .inr ⟨h2, ?_⟩
      by_cases h5 : 5 < (pieces s).length
      · rw [if_pos h5] at h; omega
      · rw [if_neg h5] at h
        have pl := pieces_len s
        by_cases h6 : (namesR s).2 = true
        · have h7 := h6
          unfold namesR at h6 ⊢
          rw [if_neg h2] at h6 ⊢
          by_cases h8 : (pieces s).length < 2
          · rw [if_pos h8] at h6; cases h6
          · rw [if_neg h8] at h6 ⊢
            by_cases h9 : (headR s).data.toList = []
            · rw [if_pos h9] at h6 ⊢
              by_cases h10 : ((pieces s).drop 1).all nameB = true
              · rw [if_pos h10]; exact ⟨rfl, by omega⟩
              · rw [if_neg h10] at h6; cases h6
            · rw [if_neg h9] at h6; cases h6
        · rw [if_neg h6] at h; omega
end Go.Proofs.YtbeghfdlbokhkaaDoor.Pure

/- What is wrong with an operation: by the program and by the reference the same. -/
namespace Go.Proofs.YtbeghfdlbokhkaaDoor.Pure
open Go.RowKit Go.Proofs.YtbeghfdlbokhkaaDoor.Qc Go.Proofs.YtbeghfdlbokhkaaDoorW.PrintWords Go.Proofs.YtbeghfdlbokhkaaDoorW.PrintLast Go.Proofs.YtbeghfdlbokhkaaDoor.Aid
theorem st_no {α : Type} {b : Bool} {c : Prop} [Decidable c] {X J : α} : (if b = true then (if c then X else J) else X) = if (b && !decide c) = true then J else X := by
  cases b <;> by_cases h : c <;> simp [h]
theorem st_in {α : Type} {b s : Bool} {X J : α} : (if b = true then (if s = true then J else X) else X) = if (b && s) = true then J else X := by
  cases b <;> cases s <;> simp
/-- What an operation of a kind has not. -/
def noP (K : Int) : Bool := !decide (3 ≤ K ∧ K ≤ 8)
def noD (K : Int) : Bool := !decide (K = 3 ∨ K = 5)
def noV (K : Int) : Bool := !decide (K = 4 ∨ K = 5 ∨ K = 8)
def noS (K : Int) : Bool := !decide (K = 3)
def ownK (K : Int) : ByteArray := if K = 3 then ⟨#[112, 100, 115, 111]⟩ else if K = 4 then ⟨#[112, 118]⟩ else if K = 5 then ⟨#[112, 100, 118]⟩ else if K = 6 then ⟨#[112]⟩ else if K = 7 then ⟨#[112]⟩ else if K = 8 then ⟨#[112, 118]⟩ else ⟨#[]⟩
def opBad (K : Int) (P : ByteArray) (D V : Int) (s o : Bool) : Bool := (noP K && !decide (P.toList = [])) || ((noD K && !decide (D = 0)) || ((noV K && !decide (V = 0)) || (noS K && (s || o))))
def rngR (D V : Int) : Int := if (0 ≤ D ∧ D ≤ 9999) ∧ (-1 ≤ V ∧ V ≤ 999) then 0 else 3
noncomputable def opR (K : Int) (P : ByteArray) (D V : Int) (s o : Bool) : Int :=
  if 1 ≤ K ∧ K ≤ 8 then (if opBad K P D V s o = true then 1 else if noP K = true then 0 else if faultR P = 0 then rngR D V else faultR P) else 1
theorem eight {K : Int} (h : 1 ≤ K ∧ K ≤ 8) : K = 1 ∨ K = 2 ∨ K = 3 ∨ K = 4 ∨ K = 5 ∨ K = 6 ∨ K = 7 ∨ K = 8 := by omega
theorem has_is {K : Int} (h : 1 ≤ K ∧ K ≤ 8) : ∃ wd, impl_has.f K = some (wd, ownK K) := by
  rcases eight h with rfl | rfl | rfl | rfl | rfl | rfl | rfl | rfl <;> exact ⟨_, rfl⟩
theorem hasNo_is {K : Int} (h : 1 ≤ K ∧ K ≤ 8) : impl_OpFault_1.f (⟨#[112]⟩ : ByteArray) (ownK K) = some (noP K) ∧ impl_OpFault_1.f (⟨#[100]⟩ : ByteArray) (ownK K) = some (noD K) ∧ impl_OpFault_1.f (⟨#[118]⟩ : ByteArray) (ownK K) = some (noV K) ∧ impl_OpFault_1.f (⟨#[115]⟩ : ByteArray) (ownK K) = some (noS K) ∧ impl_OpFault_1.f (⟨#[111]⟩ : ByteArray) (ownK K) = some (noS K) := by
  rcases eight h with rfl | rfl | rfl | rfl | rfl | rfl | rfl | rfl <;> refine ⟨?_, ?_, ?_, ?_, ?_⟩ <;> decide +kernel
theorem within_is (n lo hi : Int) : impl_within.f n lo hi = some (decide (lo ≤ n ∧ n ≤ hi)) := impl_within_is n lo hi
theorem op_tail {K : Int} (h : 1 ≤ K ∧ K ≤ 8) {P : ByteArray} {D V : Int} {s o b : Bool} (hb : opBad K P D V s o = b) : Ev (fun k => impl_OpFault.j0 k b K P D V s o (ownK K)) (opR K P D V s o) := by
  obtain ⟨hp, _⟩ := hasNo_is h
  unfold opR
  rw [if_pos h, hb]
  cases b with
  | true => exact ev_done fun k => by simp only [impl_OpFault.j0]; rw [if_pos trivial]; rfl
  | false =>
    rw [if_neg (by decide)]
    by_cases c : noP K = true
    · rw [if_pos c]
      exact ev_done fun k => by
        simp only [impl_OpFault.j0]
        rw [if_neg (by decide), hp, Option.bind_some, if_pos c]
    · rw [if_neg c]
      refine ev_step (fun k => (impl_PathFault.f k P).bind fun t138 => (if t138 = 0 then ((impl_isData.f D).bind fun t139 => (if t139 = true then ((impl_within.f V (-1) 999).bind fun t140 => (if t140 = true then (some 0) else (some 3))) else (some 3))) else (some t138))) (fun k => by
        simp only [impl_OpFault.j0]
        rw [if_neg (by decide), hp, Option.bind_some, if_neg c]) (ev_call (fault_impl P) ?_)
      by_cases hf : faultR P = 0
      · have e : (if faultR P = 0 then rngR D V else faultR P) = rngR D V := if_pos hf
        rw [e]
        refine ev_is fun k => (if_pos hf).trans ?_
        unfold impl_isData.f rngR
        rw [within_is, within_is]
        by_cases h1 : 0 ≤ D ∧ D ≤ 9999 <;> by_cases h2 : -1 ≤ V ∧ V ≤ 999 <;> simp [h1, h2]
      · have e : (if faultR P = 0 then rngR D V else faultR P) = faultR P := if_neg hf
        rw [e]
        exact ev_is fun k => if_neg hf
theorem OpFault_impl (K : Int) (P : ByteArray) (D V : Int) (s o : Bool) : Ev (fun k => impl_OpFault.f k K P D V s o) (opR K P D V s o) := by
  by_cases h : 1 ≤ K ∧ K ≤ 8
  · obtain ⟨wd, hh⟩ := has_is h
    obtain ⟨hp, hd, hv, hs, ho⟩ := hasNo_is h
    refine ev_cong (fun k => ?_) (op_tail h (P := P) (D := D) (V := V) (s := s) (o := o) rfl)
    unfold impl_OpFault.f opBad
    rw [hh, Option.bind_some, within_is, Option.bind_some, if_pos (decide_eq_true h)]
    simp only [hp, hd, hv, hs, ho, Option.bind_some]
    generalize noP K = bp
    generalize noD K = bd
    generalize noV K = bv
    generalize noS K = bs
    simp only [st_no, st_in]
    generalize (bp && !decide (P.toList = [])) = x1
    generalize (bd && !decide (D = 0)) = x2
    generalize (bv && !decide (V = 0)) = x3
    cases x1 <;> cases x2 <;> cases x3 <;> cases bs <;> cases s <;> cases o <;> rfl
  · have e : opR K P D V s o = 1 := by unfold opR; exact if_neg h
    rw [e]
    obtain ⟨a, ha⟩ : ∃ a, impl_has.f K = some a := by
      unfold impl_has.f
      repeat (first | exact ⟨_, rfl⟩ | split)
    refine ev_cong (fun k => ?_) (ev_done (g := fun k => impl_OpFault.j0 k true K P D V s o a.2) fun k => by simp only [impl_OpFault.j0]; rw [if_pos trivial])
    unfold impl_OpFault.f
    rw [ha, Option.bind_some, within_is, Option.bind_some, if_neg (by simpa using h)]
theorem st_ref {α : Type} {b : Bool} {c : Prop} [Decidable c] {X J : α} : (if (!b) = true then X else (if c then X else J)) = if (b && !decide c) = true then J else X := by
  cases b <;> by_cases h : c <;> simp [h]
theorem ref_is {K : Int} (h : 1 ≤ K ∧ K ≤ 8) : spec_l5Path.f K = some (!noP K) ∧ spec_l5Data.f K = some (!noD K) ∧ spec_l5Version.f K = some (!noV K) := by
  rcases eight h with rfl | rfl | rfl | rfl | rfl | rfl | rfl | rfl <;> refine ⟨?_, ?_, ?_⟩ <;> decide +kernel
theorem op_range (K : Int) (P : ByteArray) (D V : Int) (s o : Bool) : Ev (fun k => spec_l5Op.j1 k K P D V s o) (rngR D V, K, P, D, V, s, o) := by
  refine ev_done fun k => ?_
  simp only [spec_l5Op.j1]
  unfold spec_l2Data.f rngR
  rw [spec_l1In_is, spec_l1In_is]
  by_cases h1 : 0 ≤ D ∧ D ≤ 9999 <;> by_cases h2 : -1 ≤ V ∧ V ≤ 999 <;> simp [h1, h2]
theorem op_none {K : Int} (h : 1 ≤ K ∧ K ≤ 8) {P : ByteArray} {D V : Int} {s o : Bool} (hb : opBad K P D V s o = false) (c : noP K = true) : rngR D V = 0 := by
  unfold opBad at hb
  simp only [Bool.or_eq_false_iff] at hb
  obtain ⟨_, h2, h3, _⟩ := hb
  have hk : K = 1 ∨ K = 2 := by
    unfold noP at c
    simp only [Bool.not_eq_true', decide_eq_false_iff_not] at c
    omega
  have hd : noD K = true := by rcases hk with rfl | rfl <;> decide
  have hv : noV K = true := by rcases hk with rfl | rfl <;> decide
  rw [hd] at h2
  rw [hv] at h3
  simp at h2 h3
  rw [h2, h3]
  rfl
theorem op_tail_ref {K : Int} (h : 1 ≤ K ∧ K ≤ 8) {P : ByteArray} {D V : Int} {s o b : Bool} (hb : opBad K P D V s o = b) : Ev (fun k => spec_l5Op.j0 k b K P D V s o) (opR K P D V s o, K, P, D, V, s, o) := by
  obtain ⟨hp, _⟩ := ref_is h
  unfold opR
  rw [if_pos h, hb]
  cases b with
  | true => exact ev_done fun k => by simp only [spec_l5Op.j0]; rw [if_pos trivial]; rfl
  | false =>
    rw [if_neg (by decide)]
    by_cases c : noP K = true
    · rw [if_pos c, ← op_none h hb c]
      refine ev_step _ (fun k => ?_) (op_range K P D V s o)
      simp only [spec_l5Op.j0]
      rw [if_neg (by decide), hp, Option.bind_some, c, if_neg (by decide)]
    · rw [if_neg c]
      have c' : noP K = false := by simpa using c
      refine ev_step (fun k => (spec_l1Fault.f k P).bind fun t110 => (if t110 = 0 then (spec_l5Op.j1 k K P D V s o) else (some (t110, K, P, D, V, s, o)))) (fun k => by
        simp only [spec_l5Op.j0]
        rw [if_neg (by decide), hp, Option.bind_some, c', if_pos (by decide)]) (ev_call (fault_spec P) ?_)
      by_cases hf : faultR P = 0
      · rw [if_pos hf]
        exact ev_cong (fun k => if_pos hf) (op_range K P D V s o)
      · rw [if_neg hf]
        exact ev_is fun k => if_neg hf
theorem op_spec (K : Int) (P : ByteArray) (D V : Int) (s o : Bool) : Ev (fun k => spec_l5Op.f k K P D V s o) (opR K P D V s o, K, P, D, V, s, o) := by
  by_cases h : 1 ≤ K ∧ K ≤ 8
  · obtain ⟨hp, hd, hv⟩ := ref_is h
    refine ev_cong (fun k => ?_) (op_tail_ref h (P := P) (D := D) (V := V) (s := s) (o := o) rfl)
    have hs : ∀ X : Bool → Option (Int × Int × ByteArray × Int × Int × Bool × Bool), (if K = 3 then X false else (if s = true then X true else X o)) = X (noS K && (s || o)) := fun X => by
      unfold noS
      by_cases c : K = 3
      · rw [if_pos c, decide_eq_true c]; rfl
      · rw [if_neg c, decide_eq_false c]
        cases s <;> cases o <;> rfl
    unfold spec_l5Op.f opBad
    rw [spec_l1In_is, Option.bind_some, if_pos (decide_eq_true h)]
    simp only [hp, hd, hv, Option.bind_some, hs (fun b => spec_l5Op.j0 k b K P D V s o), st_ref]
    generalize (noP K && !decide (P.toList = [])) = x1
    generalize (noD K && !decide (D = 0)) = x2
    generalize (noV K && !decide (V = 0)) = x3
    cases x1 <;> cases x2 <;> cases x3 <;> rfl
  · have e : opR K P D V s o = 1 := by unfold opR; exact if_neg h
    rw [e]
    refine ev_is fun k => ?_
    unfold spec_l5Op.f
    rw [spec_l1In_is, Option.bind_some, if_neg (by simpa using h)]
end Go.Proofs.YtbeghfdlbokhkaaDoor.Pure

/- RequestFault: the program's answer is the reference's, for every request; it writes into no argument. No condition. -/
namespace Go.Proofs.YtbeghfdlbokhkaaDoor.Pure
open Go.RowKit Go.Proofs.YtbeghfdlbokhkaaDoor.Qc Go.Proofs.YtbeghfdlbokhkaaDoorW.PrintWords Go.Proofs.YtbeghfdlbokhkaaDoorW.PrintLast Go.Proofs.YtbeghfdlbokhkaaDoor.Aid
theorem toRequest_ev (x : S31) (hl : x.f3.length ≤ 1048576) : Ev (fun k => laws_toRequest.f k x.f0 x.f1 x.f2 x.f3) (x.f0, x.f1, x.f2, x.f3.map cvOp) := by
  unfold laws_toRequest.f
  exact ev_call (laws_toOpS.ev x.f3 hl) (Ev.now _)
theorem eqRequest_ev (a b c : Int) (l : List S26) (hl : l.length ≤ 4611686018427387904) : Ev (fun k => laws_eqRequest.f k a b c l a b c l) true := by
  unfold laws_eqRequest.f
  exact ev_cong (fun k => (if_pos rfl).trans ((if_pos rfl).trans (if_pos rfl))) (ev_call (laws_eqOpS.ev l hl) (ev_is fun k => if_pos rfl))
theorem szRequest_ev (x : S31) (a : Int) (hx : g31 x) (h0 : 0 ≤ a) (h1 : a ≤ 1048576) : ∃ r : Int, Ev (fun k => laws_szRequest.f k x.f0 x.f1 x.f2 x.f3 a) r ∧ (0 ≤ r → r ≤ a ∧ (x.f3.length : Int) ≤ a) := by
  unfold laws_szRequest.f
  obtain ⟨r, hr, hq⟩ := laws_szOpS.ev x.f3 a (by have := hx; simp only [g31] at this; omega) (fun y hy => by have := hx; simp only [g31] at this; have h2 := this.2.2.2.2; first | exact (h2 y hy).2.1 | exact (h2 y hy).1 | exact (this.2.2.2.2 y hy)) h0 h1
  by_cases h : r < 0
  · exact ⟨-1, ev_call hr (ev_is fun k => if_pos h), by omega⟩
  · exact ⟨r, ev_call hr (ev_is fun k => if_neg h), fun h3 => by have := hq h3; omega⟩
abbrev OO := S26
noncomputable def opX (x : OO) : Int := opR x.f0 x.f1 x.f2 x.f3 x.f4 x.f5
/-- The first fault of operations in a row. -/
noncomputable def opsR : List OO → Int
  | [] => 0
  | x :: r => if opX x = 0 then opsR r else opX x
theorem opsR_cons (x : OO) (r : List OO) : opsR (x :: r) = if opX x = 0 then opsR r else opX x := rfl
theorem opX_in {x : OO} (h : opX x = 0) : 1 ≤ x.f0 := by
  unfold opX opR at h
  by_cases c : 1 ≤ x.f0 ∧ x.f0 ≤ 8
  · exact c.1
  · rw [if_neg c] at h; cases h
theorem opsR_all : ∀ {l : List OO}, opsR l = 0 → ∀ x ∈ l, opX x = 0
  | [], _, x, hx => by cases hx
  | y :: r, h, x, hx => by
    rw [opsR_cons] at h
    by_cases c : opX y = 0
    · rw [if_pos c] at h
      rcases List.mem_cons.1 hx with rfl | hx
      · exact c
      · exact opsR_all h x hx
    · rw [if_neg c] at h; exact absurd h c
def onceB (x : OO) : Bool := decide (x.f0 = 1 ∨ x.f0 = 2)
/-- A request's answer. -/
def tailR (l : List OO) : Int := if (l.length : Int) > 1 ∧ l.any onceB = true then 1 else 0
noncomputable def reqR (c n t : Int) (l : List OO) : Int :=
  if (1 ≤ c ∧ c ≤ 9) ∧ (1 ≤ n ∧ n ≤ 99) ∧ (0 ≤ t ∧ t ≤ 9000) then (if 1 ≤ (l.length : Int) ∧ (l.length : Int) ≤ 3 then (if opsR l = 0 then tailR l else opsR l) else 2) else 3
theorem isOnce_is (x : OO) : impl_isOnce.f x.f0 x.f1 x.f2 x.f3 x.f4 x.f5 = some (onceB x) := by
  unfold impl_isOnce.f onceB
  by_cases c : x.f0 = 1
  · rw [if_pos c, decide_eq_true (.inl c)]
  · rw [if_neg c]
    by_cases d : x.f0 = 2
    · rw [decide_eq_true (.inr d), beq_iff_eq.2 d]
    · rw [decide_eq_false (fun h => h.elim c d), beq_eq_false_iff_ne.2 d]
theorem index_l0 (l : List OO) (hl : l.length ≤ 1048576) (d : Nat) : ∀ (i : Nat), i + d = l.length → ∃ r : Int, Ev (fun k => slices_IndexFunc_impl_Op_impl_Op.l0 k l (l.length : Int) (i : Int)) r ∧ decide (r ≥ 0) = (l.drop i).any onceB := by
  induction d with
  | zero =>
    intro i h
    rw [drop_end (by omega)]
    exact ⟨-1, ev_done fun k => by simp only [slices_IndexFunc_impl_Op_impl_Op.l0]; rw [if_neg (by omega)], rfl⟩
  | succ d ih =>
    intro i h
    have hi : i < l.length := by omega
    have hrd := rd_T26_at hi
    have wi := wrap_up hi (by omega)
    obtain ⟨r, hr, he⟩ := ih (i + 1) (by omega)
    rw [drop_at hi, List.any_cons]
    cases c : onceB l[i] with
    | true =>
      refine ⟨(i : Int), ev_done fun k => ?_, ?_⟩
      · simp only [slices_IndexFunc_impl_Op_impl_Op.l0]
        rw [if_pos (by omega), if_pos (by omega), if_pos (by omega), hrd, isOnce_is, Option.bind_some, c, if_pos rfl]
      · rw [decide_eq_true (show (i : Int) ≥ 0 by omega)]; rfl
    | false =>
      refine ⟨r, ev_step _ (fun k => ?_) hr, by rw [he]; rfl⟩
      simp only [slices_IndexFunc_impl_Op_impl_Op.l0]
      rw [if_pos (by omega), if_pos (by omega), if_pos (by omega), hrd, isOnce_is, Option.bind_some, c, if_neg (by decide), wi]
theorem contains_ev (l : List OO) (hl : l.length ≤ 1048576) : Ev (fun k => slices_ContainsFunc_impl_Op_impl_Op.f k l) (l.any onceB) := by
  obtain ⟨r, hr, he⟩ := index_l0 l hl l.length 0 (by omega)
  rw [List.drop_zero] at he
  unfold slices_ContainsFunc_impl_Op_impl_Op.f slices_IndexFunc_impl_Op_impl_Op.f
  exact ev_call hr (ev_is fun k => by rw [he])
theorem req_impl_l0 (c n t : Int) (l : List OO) (hl : l.length ≤ 3) (d : Nat) : ∀ (i : Nat), i + d = l.length → Ev (fun k => impl_RequestFault.l0 k l (l.length : Int) (i : Int) c n t l) (if opsR (l.drop i) = 0 then tailR l else opsR (l.drop i)) := by
  induction d with
  | zero =>
    intro i h
    have e : (if opsR ([] : List OO) = 0 then tailR l else opsR []) = tailR l := if_pos rfl
    rw [drop_end (by omega), e]
    unfold tailR
    refine ev_step (fun k => if (l.length : Int) > 1 then ((slices_ContainsFunc_impl_Op_impl_Op.f k l).bind fun t109 => (if t109 = true then (some 1) else (some 0))) else (some 0)) (fun k => by simp only [impl_RequestFault.l0]; exact if_neg (by omega)) ?_
    by_cases c1 : (l.length : Int) > 1
    · refine ev_cong (fun k => if_pos c1) (ev_call (contains_ev l (by omega)) (ev_is fun k => ?_))
      cases c2 : l.any onceB with
      | true => rw [if_pos rfl, if_pos ⟨c1, rfl⟩]
      | false => rw [if_neg (by decide), if_neg (fun h => by cases h.2)]
    · rw [if_neg (fun h => c1 h.1)]
      exact ev_is fun k => if_neg c1
  | succ d ih =>
    intro i h
    have hi : i < l.length := by omega
    have hrd := rd_T26_at hi
    have wi := wrap_up hi (by omega)
    have IH := ih (i + 1) (by omega)
    have ho := OpFault_impl l[i].f0 l[i].f1 l[i].f2 l[i].f3 l[i].f4 l[i].f5
    rw [drop_at hi, opsR_cons]
    refine ev_step _ (fun k => by
      simp only [impl_RequestFault.l0]
      rw [if_pos (by omega), if_pos (by omega), if_pos (by omega), hrd, wi]) (ev_call ho ?_)
    by_cases z : opX l[i] = 0
    · rw [if_pos z]
      exact ev_cong (fun k => if_pos z) IH
    · rw [if_neg z, if_neg z]
      exact ev_is fun k => if_neg z
theorem RequestFault_impl (c n t : Int) (l : List OO) : Ev (fun k => impl_RequestFault.f k c n t l) (reqR c n t l) := by
  have bad : Ev (fun k => impl_RequestFault.j0 k true c n t l) 3 := ev_done fun k => by simp only [impl_RequestFault.j0]; rw [if_pos trivial]
  have good : Ev (fun k => impl_RequestFault.j0 k false c n t l) (if 1 ≤ (l.length : Int) ∧ (l.length : Int) ≤ 3 then (if opsR l = 0 then tailR l else opsR l) else 2) := by
    refine ev_step (fun k => (impl_within.f (l.length : Int) 1 3).bind fun t105 => (if t105 = true then (impl_RequestFault.l0 k l (l.length : Int) 0 c n t l) else (some 2))) (fun k => by simp only [impl_RequestFault.j0]; exact if_neg (by decide)) ?_
    refine ev_cong (fun k => by rw [within_is, Option.bind_some]) ?_
    by_cases h : 1 ≤ (l.length : Int) ∧ (l.length : Int) ≤ 3
    · rw [if_pos h]
      exact ev_cong (fun k => if_pos (decide_eq_true h)) (req_impl_l0 c n t l (by omega) l.length 0 (by omega))
    · rw [if_neg h]
      exact ev_is fun k => if_neg (by simpa using h)
  unfold impl_RequestFault.f impl_isClient.f impl_isTime.f reqR
  by_cases h1 : 1 ≤ c ∧ c ≤ 9
  · refine ev_cong (fun k => by rw [within_is, Option.bind_some, Option.bind_some, if_pos (decide_eq_true h1), within_is, Option.bind_some]) ?_
    by_cases h2 : 1 ≤ n ∧ n ≤ 99
    · refine ev_cong (fun k => by rw [if_pos (decide_eq_true h2), within_is, Option.bind_some, Option.bind_some]) ?_
      by_cases h3 : 0 ≤ t ∧ t ≤ 9000
      · rw [if_pos ⟨h1, h2, h3⟩]
        exact ev_cong (fun k => by rw [decide_eq_true h3]; rfl) good
      · rw [if_neg (fun h => h3 h.2.2)]
        exact ev_cong (fun k => by rw [decide_eq_false h3]; rfl) bad
    · rw [if_neg (fun h => h2 h.2.1)]
      exact ev_cong (fun k => if_neg (by simpa using h2)) bad
  · rw [if_neg (fun h => h1 h.1)]
    exact ev_cong (fun k => by rw [within_is, Option.bind_some, Option.bind_some]; exact if_neg (by simpa using h1)) bad
abbrev RS := Int × Int × Int × Int
theorem once_ref {l : List OO} (h : ∀ x ∈ l, opX x = 0) : l.any (fun x => decide (x.f0 ≤ 2)) = l.any onceB := by
  induction l with
  | nil => rfl
  | cons x r ih =>
    have h1 := opX_in (h x (by simp))
    rw [List.any_cons, List.any_cons, ih (fun y hy => h y (List.mem_cons_of_mem _ hy))]
    have e : decide (x.f0 ≤ 2) = onceB x := by
      unfold onceB
      exact decide_eq_decide.2 (by omega)
    rw [e]
theorem req_ref_l1 (c n t : Int) (l : List OO) (hl : l.length ≤ 3) (d : Nat) : ∀ (i : Nat), i + d = l.length → Ev (fun k => spec_l5Request.l1 k (i : Int) c n t l) ((if (l.length : Int) > 1 ∧ (l.drop i).any (fun x => decide (x.f0 ≤ 2)) = true then 1 else 0), c, n, t) := by
  induction d with
  | zero =>
    intro i h
    rw [drop_end (by omega), if_neg (fun h => by cases h.2)]
    exact ev_step _ (fun k => by simp only [spec_l5Request.l1]; exact if_neg (by omega)) (ev_done fun k => by simp only [spec_l5Request.j4]; rw [if_neg (by decide)])
  | succ d ih =>
    intro i h
    have hi : i < l.length := by omega
    have hrd := rd_T26_at hi
    have wi := wrap_up hi (by omega)
    have IH := ih (i + 1) (by omega)
    rw [drop_at hi, List.any_cons]
    refine ev_step (fun k => spec_l5Request.j4 k (i : Int) (decide ((l.length : Int) > 1)) c n t l) (fun k => by simp only [spec_l5Request.l1]; exact if_pos (by omega)) ?_
    by_cases g : (l.length : Int) > 1
    · rw [decide_eq_true g]
      by_cases z : l[i].f0 ≤ 2
      · rw [if_pos ⟨g, by rw [decide_eq_true z]; rfl⟩]
        exact ev_done fun k => by
          simp only [spec_l5Request.j4]
          rw [if_pos trivial, if_pos (by omega), if_pos (by omega), hrd, if_pos z]
      · rw [decide_eq_false z, Bool.false_or]
        refine ev_step _ (fun k => ?_) IH
        simp only [spec_l5Request.j4]
        rw [if_pos trivial, if_pos (by omega), if_pos (by omega), hrd, if_neg z, wi]
    · rw [decide_eq_false g, if_neg (fun h => g h.1)]
      exact ev_done fun k => by simp only [spec_l5Request.j4]; rw [if_neg (by decide)]
theorem OpV_ev (x : OO) : Ev (fun k => spec_l5OpV.f k x.f0 x.f1 x.f2 x.f3 x.f4 x.f5) (opX x) := by
  unfold spec_l5OpV.f
  exact ev_call (op_spec x.f0 x.f1 x.f2 x.f3 x.f4 x.f5) (Ev.now _)
theorem req_ref_l0 (c n t : Int) (l : List OO) (hl : l.length ≤ 3) (d : Nat) : ∀ (i : Nat), i + d = l.length → (opsR (l.drop i) = 0 → opsR l = 0) → Ev (fun k => spec_l5Request.l0 k (i : Int) c n t l) ((if opsR (l.drop i) = 0 then tailR l else opsR (l.drop i)), c, n, t) := by
  induction d with
  | zero =>
    intro i h h0
    have e : (if opsR ([] : List OO) = 0 then tailR l else opsR []) = tailR l := if_pos rfl
    rw [drop_end (by omega)] at h0 ⊢
    rw [e]
    have ha := once_ref (opsR_all (h0 rfl))
    have h1 := req_ref_l1 c n t l hl l.length 0 (by omega)
    rw [List.drop_zero, ha] at h1
    exact ev_step _ (fun k => by simp only [spec_l5Request.l0]; exact if_neg (by omega)) h1
  | succ d ih =>
    intro i h h0
    have hi : i < l.length := by omega
    have hrd := rd_T26_at hi
    have wi := wrap_up hi (by omega)
    rw [drop_at hi, opsR_cons] at h0 ⊢
    refine ev_step _ (fun k => by
      simp only [spec_l5Request.l0]
      rw [if_pos (by omega), if_pos (by omega), hrd, wi]) (ev_call (OpV_ev l[i]) ?_)
    by_cases z : opX l[i] = 0
    · rw [if_pos z] at h0 ⊢
      exact ev_cong (fun k => if_pos z) (ih (i + 1) (by omega) h0)
    · rw [if_neg z, if_neg z]
      exact ev_is fun k => if_neg z
theorem req_spec (c n t : Int) (l : List OO) : Ev (fun k => spec_l5Request.f k c n t l) (reqR c n t l, c, n, t) := by
  have bad : Ev (fun k => spec_l5Request.j0 k true c n t l) (3, c, n, t) := ev_done fun k => by simp only [spec_l5Request.j0]; rw [if_pos trivial]
  have many : ∀ b : Bool, b = true → Ev (fun k => spec_l5Request.j1 k b c n t l) (2, c, n, t) := fun b hb => by subst hb; exact ev_done fun k => by simp only [spec_l5Request.j1]; rw [if_pos trivial]
  have good : Ev (fun k => spec_l5Request.j0 k false c n t l) ((if 1 ≤ (l.length : Int) ∧ (l.length : Int) ≤ 3 then (if opsR l = 0 then tailR l else opsR l) else 2), c, n, t) := by
    by_cases h0 : (l.length : Int) < 1
    · rw [if_neg (by omega)]
      exact ev_step _ (fun k => by simp only [spec_l5Request.j0]; rw [if_neg (by decide), if_pos h0]) (many true rfl)
    · refine ev_step (fun k => spec_l5Request.j1 k (decide ((l.length : Int) > 3)) c n t l) (fun k => by simp only [spec_l5Request.j0]; rw [if_neg (by decide), if_neg h0]) ?_
      by_cases h3 : (l.length : Int) > 3
      · rw [if_neg (by omega)]
        exact many _ (decide_eq_true h3)
      · rw [if_pos (by omega), decide_eq_false h3]
        exact ev_step _ (fun k => by simp only [spec_l5Request.j1]; exact if_neg (by decide)) (req_ref_l0 c n t l (by omega) l.length 0 (by omega) (fun h => by rwa [List.drop_zero] at h))
  unfold spec_l5Request.f spec_l4Id.f spec_l4Now.f reqR
  by_cases h1 : 1 ≤ c ∧ c ≤ 9
  · refine ev_cong (fun k => by rw [spec_l1In_is, Option.bind_some, Option.bind_some, if_pos (decide_eq_true h1), spec_l1In_is, Option.bind_some]) ?_
    by_cases h2 : 1 ≤ n ∧ n ≤ 99
    · refine ev_cong (fun k => by rw [if_pos (decide_eq_true h2), spec_l1In_is, Option.bind_some, Option.bind_some]) ?_
      by_cases h3 : 0 ≤ t ∧ t ≤ 9000
      · rw [if_pos ⟨h1, h2, h3⟩]
        exact ev_cong (fun k => by rw [decide_eq_true h3]; rfl) good
      · rw [if_neg (fun h => h3 h.2.2)]
        exact ev_cong (fun k => by rw [decide_eq_false h3]; rfl) bad
    · rw [if_neg (fun h => h2 h.2.1)]
      exact ev_cong (fun k => if_neg (by simpa using h2)) bad
  · rw [if_neg (fun h => h1 h.1)]
    exact ev_cong (fun k => by rw [spec_l1In_is, Option.bind_some, Option.bind_some]; exact if_neg (by simpa using h1)) bad
theorem RequestFault_spec (c n t : Int) (l : List OO) : Ev (fun k => spec_RequestFault.f k c n t l) (reqR c n t l) := by
  unfold spec_RequestFault.f
  exact ev_call (req_spec c n t l) (Ev.now _)
theorem FnExactRequestFault (x0 : S31) (hx : g31 x0) : ∃ k, laws_FnExactRequestFault.f k x0.f0 x0.f1 x0.f2 x0.f3 = some true := by
  refine Ev.rounds ?_
  unfold laws_FnExactRequestFault.f
  obtain ⟨r, hr, hq⟩ := szRequest_ev x0 1048576 hx (by omega) (by omega)
  refine ev_call hr ?_
  by_cases h : r < 0
  · exact ev_is fun k => if_pos h
  · refine ev_cong (fun k => if_neg h) ?_
    obtain ⟨h1, h2⟩ := hq (by omega)
    have tl := toRequest_ev x0 (by omega)
    have ll : (x0.f3.map cvOp).length ≤ 4611686018427387904 := by rw [List.length_map]; omega
    refine ev_step _ (fun k => by simp only [laws_FnExactRequestFault.j0]; rfl) ?_
    refine ev_call tl (ev_call (RequestFault_spec _ _ _ _) (ev_call tl (ev_call (RequestFault_impl _ _ _ _) (ev_cong (fun k => if_pos rfl) ?_))))
    refine ev_step _ (fun k => by simp only [laws_FnExactRequestFault.j1]; rfl) ?_
    exact ev_call tl (ev_call (eqRequest_ev _ _ _ _ ll) (ev_is fun k => if_pos rfl))
end Go.Proofs.YtbeghfdlbokhkaaDoor.Pure

/- For every input the law loop.example/g00369/laws.FnExactRequestFault returns true, and every argument reads behind the call as it read before. No condition. -/
namespace Go.Proofs.YtbeghfdlbokhkaaDoor.fnExactRequestFault
open Go.ChangeShapes Go.WideShapes Go.ChangeAt Go.RowKit Go.Proofs.YtbeghfdlbokhkaaDoor.Qc Go.Proofs.YtbeghfdlbokhkaaDoor.Tro Go.Proofs.YtbeghfdlbokhkaaDoorW.PrintWords
open Go.ChangeMaps (open_string shut_string)
set_option linter.unusedVariables false
set_option linter.unusedSimpArgs false
theorem own : ownKnob Tryd.prog.godebug = none := by kernel_rfl
theorem laidOut : laidOutB Tryd.prog = true := by kernel_rfl
set_option maxRecDepth 100000 in
theorem lifted (os : Os) (started : os.Started) (H : Type) (enc : TypeId × Value → H) :
    ReturnsInHanded {} Tryd.checked os 4 .any (fun w args => (Rows.fnExactRequestFaultSpec.pre enc Tryd.prog Tryd.f4 [] false w args ∧ laidMetH Tryd.prog Rows.fnExactRequestFaultRow.laid w) ∧ sizedMet enc Tryd.prog Tryd.f4 (OpenSpec.ofChange Rows.fnExactRequestFaultSpec) false w args) (Rows.fnExactRequestFaultSpec.post enc Tryd.prog Tryd.f4 false true false false) := by
  refine returnsInHanded_of_change_and (C := Tryd.checked) (X := fun w _ => laidMetH Tryd.prog Rows.fnExactRequestFaultRow.laid w) (fun _ _ _ hh h => h.of_heap hh) own started (by kernel_rfl) Tryd.func4
    (ChangeSpec.witness_shaped (enc := enc) (C := Tryd.checked) (os := os) (X := fun w _ => laidMetH Tryd.prog Rows.fnExactRequestFaultRow.laid w) false (World.laidAll Tryd.prog os Rows.fnExactRequestFaultRow.laid) #[.agg #[.int .i64 0, .int .i64 0, .int .i64 0, .slice none 0 0]] 8 (World.laidAll_os _ _ _)
      (World.shaped_of_ZipB (by kernel_rfl) (by kernel_rfl)) (by kernel_rfl) (by kernel_rfl) (by kernel_rfl)
      (by rw [MakeChecks.laidMetH_plain _ _ _ (by kernel_rfl)]; exact laidMet_laidAll _ (by kernel_rfl) (by kernel_rfl))) ?_
  intro W base args ds gs before hval0 hW _ _ hL _
  have hval : ∀ (j : Nat) t v, Tryd.f4.params[j]? = some t → args[j]? = some v → Value.okWide Tryd.prog W .any base t v := hval0
  have hW' := hW
  obtain ⟨p, q, hA0, hV, rfl, hfz, hnd⟩ := hW
  have hA : DataW.TrodAll enc Tryd.prog W 0 (fun _ => true) true Tryd.f4.params.toList args.toList ds p := hA0
  rw [Tryd.params4] at hA hval
  obtain ⟨v0, vs0, d0, ds0, p0, q0, hargs, rfl, rfl, h0, r0⟩ := trodAll_cons hA
  obtain ⟨rfl, rfl, rfl⟩ := trodAll_nil r0
  obtain rfl : args = #[v0] := by cases args; simp_all
  obtain ⟨rfl, rfl⟩ := trodVars_none hV
  have k0 := h0
  have lt0 : ∀ x ∈ p0, x.block < W.heap.size := by obtain ⟨m, hm⟩ := k0; exact DataW.trod_lt m _ _ _ hm
  obtain ⟨cs0, rfl, hsz0⟩ := okWide_struct Tryd.underlying31 (hval 0 31 v0 rfl rfl)
  obtain ⟨fuel0, hf0⟩ := h0
  obtain ⟨x0, hK0, hg0⟩ := tr31 enc W _ _ _ hf0
  obtain ⟨A0_3, c0_3, hcs0, hl0_3, hC0_3⟩ := k31_open hK0
  have hcs0' : cs0 = #[.int .i64 x0.f0, .int .i64 x0.f1, .int .i64 x0.f2, .slice A0_3 x0.f3.length c0_3] := Array.toList_inj.1 hcs0
  subst hcs0'
  obtain ⟨k, hk⟩ := Pure.FnExactRequestFault x0 hg0
  refine (laws_FnExactRequestFault.calls k x0.f0 x0.f1 x0.f2 _ _ x0.f3 true W hC0_3 hl0_3 hk).mono fun e W' hE => ?_
  obtain ⟨he, hd⟩ := hE
  have bel : Below W.heap.size W W' := hd
  subst he
  exact ⟨_, rfl, _, _, _, [], _, [], hW', trodAll_mk1 (shut_bool Tryd.underlying4 _), (trodAll_cons_mk (Below.trod laidOut (by kernel_rfl) (of_decide_eq_true (by kernel_rfl)) k0 bel lt0) trodAll_mk0), rfl, bel.frame _, fun h => by cases h⟩
theorem over : Rows.fnExactRequestFaultRow.holds Tryd.pinned (OpenSpec.ofChange Rows.fnExactRequestFaultSpec) :=
  OpenClaim.holds_of_wide 4 Tryd.f4 rfl rfl rfl rfl rfl rfl rfl ⟨rfl, rfl, rfl, rfl, rfl⟩ rfl rfl rfl rfl rfl (by kernel_rfl) Tryd.func4 (by kernel_rfl)
    (of_decide_eq_true (by kernel_rfl)) (by unfold Func.isWrapper; first | (rw [if_pos (by decide +kernel)]; kernel_rfl) | (rw [if_neg (by decide +kernel)]; exact ⟨rfl, rfl⟩))
    (fun os started H enc _ => lifted os started H enc)
theorem proved : Rows.FnExactRequestFaultCardSaid :=
  Claim7.holds_tied_plain_at .later [] [.data, .pinned] true (true, "51b58521302bbc2800a4bc7918879e2c72a2515d14f21b5f6e244ca2783b6b1b") false over (fun _ h => by cases h) (by kernel_rfl) (fun _ h => by cases h) fnExactRequestFault_row_tie rfl ⟨rfl, rfl⟩ (by kernel_rfl) rfl
    (fun f fn hf hfn => by
      obtain rfl : f = 4 := Option.some.inj ((show Tryd.prog.funcNamed "loop.example/g00369/laws.FnExactRequestFault" = some 4 by kernel_rfl).symm.trans hf) |>.symm
      obtain rfl : fn = Tryd.f4 := (Option.some.inj (Tryd.func4.symm.trans hfn)).symm
      exact ⟨by kernel_rfl, fun j t ht => by
        rw [Tryd.params4] at ht
        have hm : t ∈ [31] := by simpa using Array.mem_of_getElem? ht
        have hall : ([31].all fun u => !Tryd.prog.wantsStandIn u) = true := by kernel_rfl
        exact (show Tryd.prog.wantsStandIn t = false by simpa using List.all_eq_true.1 hall t hm)⟩)
    (by kernel_rfl)
#print axioms proved
end Go.Proofs.YtbeghfdlbokhkaaDoor.fnExactRequestFault
namespace Go.Proofs.YtbeghfdlbokhkaaDoor
/-- The row, under a short name, for the claim. -/
theorem fnExactRequestFault_holds : Rows.FnExactRequestFaultCardSaid := fnExactRequestFault.proved
end Go.Proofs.YtbeghfdlbokhkaaDoor
