import Derived.Test.YtbeghfdlbokhkaaDoorQcx0
import Derived.Test.YtbeghfdlbokhkaaDoorQcx1
import Derived.Test.YtbeghfdlbokhkaaDoorQcx12
import Derived.Test.YtbeghfdlbokhkaaDoorQcx13
import Derived.Test.YtbeghfdlbokhkaaDoorQcx25
namespace Go.Proofs.YtbeghfdlbokhkaaDoor.Qc
open Go.RowKit Go.Proofs.YtbeghfdlbokhkaaDoorW.PrintWords Go.Proofs.YtbeghfdlbokhkaaDoorW.PrintLast Go.Proofs.YtbeghfdlbokhkaaDoorW.PrintMore
attribute [local go_sem] max2_int min2_int max_two min_two max_three min_three max_four min_four
set_option linter.unusedVariables false
set_option linter.unusedSimpArgs false
set_option maxHeartbeats 8000000
set_option maxRecDepth 100000

/-! ### laws_FnExactOpFault: function 3 -/
def laws_FnExactOpFault.j0 : Nat → Int → ByteArray → Int → Int → Bool → Bool → Option (Bool)
 | 0, _, _, _, _, _, _ => none
 | k + 1, x102000, x102001, x102002, x102003, x102004, x102005 => (laws_toOp.f x102000 x102001 x102002 x102003 x102004 x102005).bind fun bt103 => ((spec_OpFault.f k bt103.1 bt103.2.1 bt103.2.2.1 bt103.2.2.2.1 bt103.2.2.2.2.1 bt103.2.2.2.2.2).bind fun t109 => ((laws_toOp.f x102000 x102001 x102002 x102003 x102004 x102005).bind fun bt110 => ((impl_OpFault.f k bt110.1 bt110.2.1 bt110.2.2.1 bt110.2.2.2.1 bt110.2.2.2.2.1 bt110.2.2.2.2.2).bind fun t116 => (if t116 = t109 then (some true) else (some false)))))
def laws_FnExactOpFault.f (k : Nat) (a0_0 : Int) (a0_1 : ByteArray) (a0_2 : Int) (a0_3 : Int) (a0_4 : Bool) (a0_5 : Bool) : Option (Bool) := (laws_szOp.f a0_0 a0_1 a0_2 a0_3 a0_4 a0_5 1048576).bind fun t102 => (if t102 < 0 then (some true) else (laws_FnExactOpFault.j0 k a0_0 a0_1 a0_2 a0_3 a0_4 a0_5))
theorem laws_FnExactOpFault.mono_l : ∀ k, (∀ y0 y1 y2 y3 y4 y5, LeO (laws_FnExactOpFault.j0 k y0 y1 y2 y3 y4 y5) (laws_FnExactOpFault.j0 (k + 1) y0 y1 y2 y3 y4 y5))
 | 0 => fun _ _ _ _ _ _ r h => by simp [laws_FnExactOpFault.j0] at h
 | k + 1 => by
  have ih0 := laws_FnExactOpFault.mono_l k
  ·
   intro y0 y1 y2 y3 y4 y5
   unfold laws_FnExactOpFault.j0
   with_reducible repeat' first | exact ih0 _ _ _ _ _ _ | exact impl_OpFault.mono _ _ _ _ _ _ _ | exact spec_OpFault.mono _ _ _ _ _ _ _ | exact LeO.refl _ | exact LeO.none _ | refine LeO.ite ?_ ?_ | refine LeO.bind ?_ (fun _ => ?_)
theorem laws_FnExactOpFault.mono : ∀ a0 a1 a2 a3 a4 a5 k, LeO (laws_FnExactOpFault.f k a0 a1 a2 a3 a4 a5) (laws_FnExactOpFault.f (k + 1) a0 a1 a2 a3 a4 a5) := by
 intro a0 a1 a2 a3 a4 a5 k
 have ih0 := laws_FnExactOpFault.mono_l k
 unfold laws_FnExactOpFault.f
 with_reducible repeat' first | exact ih0 _ _ _ _ _ _ | exact impl_OpFault.mono _ _ _ _ _ _ _ | exact spec_OpFault.mono _ _ _ _ _ _ _ | exact LeO.refl _ | exact LeO.none _ | refine LeO.ite ?_ ?_ | refine LeO.bind ?_ (fun _ => ?_)
theorem laws_FnExactOpFault.calls (k : Nat) (a0_0 : Int) (a0_1 : ByteArray) (a0_2 : Int) (a0_3 : Int) (a0_4 : Bool) (a0_5 : Bool) (r : Bool) (w : World) (h : laws_FnExactOpFault.f k a0_0 a0_1 a0_2 a0_3 a0_4 a0_5 = some r) :
  Calls Tryd.prog 3 #[.agg #[.int .i64 a0_0, .string a0_1, .int .i64 a0_2, .int .i64 a0_3, .bool a0_4, .bool a0_5]] w fun e w' => e = .returned (.bool r) ∧ Below w.heap.size w w' := by
 have hu23 := Tryd.underlying23
 have HB := aa (Below.refl w.heap.size w)
 have H : ((laws_szOp.f a0_0 a0_1 a0_2 a0_3 a0_4 a0_5 1048576).bind fun t102 => (if t102 < 0 then (some true) else (laws_FnExactOpFault.j0 k a0_0 a0_1 a0_2 a0_3 a0_4 a0_5))) = some r := h
 clear h
 revert H
 refine obs_ fun t102 A2 H => ?_
 have HC3 := aa H
 clear H
 go_enter Tryd.func3, Tryd.ntmps3
 go_upto_if 10 with (first | (refine be_ 1 #[.int .i64 a0_0, .string a0_1, .int .i64 a0_2, .int .i64 a0_3, .bool a0_4, .bool a0_5] 23 ?_; intro gb101 hg w4 hbox hb; have n0_ := aa (below_step zjjbob hb); have n1_ := aa (hbox); have n2_ := aa ((zkpfjp : w.heap.size ≤ gb101)); have n3_ := aa ((zkpfjp : w.heap.size ≤ gb101)); clear HB; have HB := n0_; have BK101 := n1_; have GW101 := n2_; have GE101 := n3_; clear n0_ n1_ n2_ n3_; clear hb hbox hg; obtain ⟨hcz5_0, hcz5_1, hcz5_2, hcz5_3, hcz5_4, hcz5_5, hfz5_0, hfz5_1, hfz5_2, hfz5_3, hfz5_4, hfz5_5⟩ := blk6_ BK101.out) | (refine gc_ Tryd.func5 (some 8) #[.agg #[.int .i64 a0_0, .string a0_1, .int .i64 a0_2, .int .i64 a0_3, .bool a0_4, .bool a0_5], .int .i64 1048576] ?_; (with_reducible refine (laws_szOp.calls a0_0 a0_1 a0_2 a0_3 a0_4 a0_5 1048576 t102 _ A2.out).mono ?_); rintro e w6 ⟨rfl, hb⟩; refine ⟨_, rfl, ?_⟩; replace BK101 := aa (bb_ BK101.out hb); replace HB := aa (below_step zkmbdh hb); (try clear hb hk hi)))
 (try simp only [Act.put, List.setIfInBounds_toArray, List.set_cons_zero, List.set_cons_succ])
 go_cut [] (fun wc => ∃ (kq : Nat), Aside0 (laws_FnExactOpFault.j0 kq a0_0 a0_1 a0_2 a0_3 a0_4 a0_5 = some r) ∧ Aside0 (kq ≤ k) ∧ Aside0 (wc.heap[gb101]? = some (.cells #[.int .i64 a0_0, .string a0_1, .int .i64 a0_2, .int .i64 a0_3, .bool a0_4, .bool a0_5] 23 (0, 0))) ∧ Aside0 (Below w.heap.size w wc))
 case first =>
  have H := HC3.out
  clear HC3
  revert H
  refine itD_ (fun c7b0 H => ?_) fun c7b0 H => ?_
  ·
   (first | rw [c7b0] | (simp only [i64_w, i32_w]; rw [c7b0]) | (simp only [c7b2, Bool.not_false, Bool.not_true]) | skip)
   obtain rfl := Option.some.inj H
   go_wp2
   go_ret
   exact ⟨zlhpib, zkmbdh⟩
  (first | rw [c7b0] | (simp only [i64_w, i32_w]; rw [c7b0]) | (simp only [c7b2, Bool.not_false, Bool.not_true]) | skip)
  have H' := aa H
  clear H
  go_wp2
  go_meet
  case rel => exact ⟨_, H', ⟨zpacfg⟩, ⟨zkjhpm BK101.out⟩, ⟨zkmbdh⟩⟩
 case rest =>
  clear HC3
  try clear p2
  try clear c7b0
  try clear c7b2
  try clear hcz5_0
  try clear hcz5_1
  try clear hcz5_2
  try clear hcz5_3
  try clear hcz5_4
  try clear hcz5_5
  try clear hfz5_0
  try clear hfz5_1
  try clear hfz5_2
  try clear hfz5_3
  try clear hfz5_4
  try clear hfz5_5
  obtain ⟨kq, HA, HJ2, BK101, HB⟩ := hcut
  cases kq with
  | zero => exact absurd HA.out (by simp [laws_FnExactOpFault.j0])
  | succ kj2 =>
   have H := HA.out
   clear HA
   simp only [laws_FnExactOpFault.j0] at H
   revert H
   refine ob6_ fun t103 t104 t105 t106 t107 t108 A8 H => ?_
   (try dsimp only at H)
   revert H
   refine obs_ fun t109 A9 H => ?_
   revert H
   refine ob6_ fun t110 t111 t112 t113 t114 t115 A10 H => ?_
   (try dsimp only at H)
   revert H
   refine obs_ fun t116 A11 H => ?_
   revert H
   refine itE_ (fun c12b0 c12b1 H => ?_) fun c12b0 c12b1 H => ?_
   ·
    obtain rfl := Option.some.inj H
    obtain ⟨hcz13_0, hcz13_1, hcz13_2, hcz13_3, hcz13_4, hcz13_5, hfz13_0, hfz13_1, hfz13_2, hfz13_3, hfz13_4, hfz13_5⟩ := blk6_ BK101.out
    go_wp2_with (first | (refine gc_ Tryd.func7 (some 12) #[.agg #[.int .i64 a0_0, .string a0_1, .int .i64 a0_2, .int .i64 a0_3, .bool a0_4, .bool a0_5]] ?_; (with_reducible refine (laws_toOp.calls a0_0 a0_1 a0_2 a0_3 a0_4 a0_5 t103 t104 t105 t106 t107 t108 _ A8.out).mono ?_); rintro e w14 ⟨rfl, hb⟩; refine ⟨_, rfl, ?_⟩; replace BK101 := aa (bb_ BK101.out hb); replace HB := aa (below_step zkmbdh hb); (try clear hb hk hi)) | (refine gc_ Tryd.func6 (some 13) #[.agg #[.int .i64 t103, .string t104, .int .i64 t105, .int .i64 t106, .bool t107, .bool t108]] ?_; (with_reducible refine (spec_OpFault.calls kj2 t103 t104 t105 t106 t107 t108 t109 _ A9.out).mono ?_); rintro e w15 ⟨rfl, hb⟩; refine ⟨_, rfl, ?_⟩; replace BK101 := aa (bb_ BK101.out hb); replace HB := aa (below_step zkmbdh hb); (try clear hb hk hi); obtain ⟨hcz16_0, hcz16_1, hcz16_2, hcz16_3, hcz16_4, hcz16_5, hfz16_0, hfz16_1, hfz16_2, hfz16_3, hfz16_4, hfz16_5⟩ := blk6_ BK101.out) | (refine gc_ Tryd.func7 (some 15) #[.agg #[.int .i64 a0_0, .string a0_1, .int .i64 a0_2, .int .i64 a0_3, .bool a0_4, .bool a0_5]] ?_; (with_reducible refine (laws_toOp.calls a0_0 a0_1 a0_2 a0_3 a0_4 a0_5 t110 t111 t112 t113 t114 t115 _ A10.out).mono ?_); rintro e w17 ⟨rfl, hb⟩; refine ⟨_, rfl, ?_⟩; replace BK101 := aa (bb_ BK101.out hb); replace HB := aa (below_step zkmbdh hb); (try clear hb hk hi)) | (refine gc_ Tryd.func8 (some 16) #[.agg #[.int .i64 t110, .string t111, .int .i64 t112, .int .i64 t113, .bool t114, .bool t115]] ?_; (with_reducible refine (impl_OpFault.calls kj2 t110 t111 t112 t113 t114 t115 t116 _ A11.out).mono ?_); rintro e w18 ⟨rfl, hb⟩; refine ⟨_, rfl, ?_⟩; replace BK101 := aa (bb_ BK101.out hb); replace HB := aa (below_step zkmbdh hb); (try clear hb hk hi)))
    go_ret
    exact ⟨zlhpib, zkmbdh⟩
   ·
    obtain rfl := Option.some.inj H
    obtain ⟨hcz19_0, hcz19_1, hcz19_2, hcz19_3, hcz19_4, hcz19_5, hfz19_0, hfz19_1, hfz19_2, hfz19_3, hfz19_4, hfz19_5⟩ := blk6_ BK101.out
    go_wp2_with (first | (refine gc_ Tryd.func7 (some 12) #[.agg #[.int .i64 a0_0, .string a0_1, .int .i64 a0_2, .int .i64 a0_3, .bool a0_4, .bool a0_5]] ?_; (with_reducible refine (laws_toOp.calls a0_0 a0_1 a0_2 a0_3 a0_4 a0_5 t103 t104 t105 t106 t107 t108 _ A8.out).mono ?_); rintro e w20 ⟨rfl, hb⟩; refine ⟨_, rfl, ?_⟩; replace BK101 := aa (bb_ BK101.out hb); replace HB := aa (below_step zkmbdh hb); (try clear hb hk hi)) | (refine gc_ Tryd.func6 (some 13) #[.agg #[.int .i64 t103, .string t104, .int .i64 t105, .int .i64 t106, .bool t107, .bool t108]] ?_; (with_reducible refine (spec_OpFault.calls kj2 t103 t104 t105 t106 t107 t108 t109 _ A9.out).mono ?_); rintro e w21 ⟨rfl, hb⟩; refine ⟨_, rfl, ?_⟩; replace BK101 := aa (bb_ BK101.out hb); replace HB := aa (below_step zkmbdh hb); (try clear hb hk hi); obtain ⟨hcz22_0, hcz22_1, hcz22_2, hcz22_3, hcz22_4, hcz22_5, hfz22_0, hfz22_1, hfz22_2, hfz22_3, hfz22_4, hfz22_5⟩ := blk6_ BK101.out) | (refine gc_ Tryd.func7 (some 15) #[.agg #[.int .i64 a0_0, .string a0_1, .int .i64 a0_2, .int .i64 a0_3, .bool a0_4, .bool a0_5]] ?_; (with_reducible refine (laws_toOp.calls a0_0 a0_1 a0_2 a0_3 a0_4 a0_5 t110 t111 t112 t113 t114 t115 _ A10.out).mono ?_); rintro e w23 ⟨rfl, hb⟩; refine ⟨_, rfl, ?_⟩; replace BK101 := aa (bb_ BK101.out hb); replace HB := aa (below_step zkmbdh hb); (try clear hb hk hi)) | (refine gc_ Tryd.func8 (some 16) #[.agg #[.int .i64 t110, .string t111, .int .i64 t112, .int .i64 t113, .bool t114, .bool t115]] ?_; (with_reducible refine (impl_OpFault.calls kj2 t110 t111 t112 t113 t114 t115 t116 _ A11.out).mono ?_); rintro e w24 ⟨rfl, hb⟩; refine ⟨_, rfl, ?_⟩; replace BK101 := aa (bb_ BK101.out hb); replace HB := aa (below_step zkmbdh hb); (try clear hb hk hi)))
    go_ret
    exact ⟨zlhpib, zkmbdh⟩

end Go.Proofs.YtbeghfdlbokhkaaDoor.Qc
