import Derived.Test.YtegggpipggniaaaDoorQax0
import Derived.Test.YtegggpipggniaaaDoorQax11
import Derived.Test.YtegggpipggniaaaDoorQax12
namespace Go.Proofs.YtegggpipggniaaaDoor.Qa
open Go.RowKit Go.Proofs.YtegggpipggniaaaDoorW.PrintWords Go.Proofs.YtegggpipggniaaaDoorW.PrintLast Go.Proofs.YtegggpipggniaaaDoorW.PrintMore
attribute [local go_sem] max2_int min2_int max_two min_two max_three min_three max_four min_four
set_option linter.unusedVariables false
set_option linter.unusedSimpArgs false
set_option maxHeartbeats 8000000
set_option maxRecDepth 100000

/-! ### strings_genSplit: function 87 -/
mutual
def strings_genSplit.j0 : Nat → ByteArray → ByteArray → Int → Int → Option (List ByteArray)
 | 0, _, _, _, _ => none
 | k + 1, x0, x1, x2, x3 => if 0 ≤ (mn x3 (wrap64 ((x0.size : Int) + 1))) then (if (mn x3 (wrap64 ((x0.size : Int) + 1)) : Int).toNat ≤ 17592186044416 then (strings_genSplit.l0 k x0 x1 x2 (wrap64 ((mn x3 (wrap64 ((x0.size : Int) + 1))) - 1)) (List.replicate (mn x3 (wrap64 ((x0.size : Int) + 1)) : Int).toNat (⟨#[]⟩ : ByteArray)) 0) else (none)) else (none)
def strings_genSplit.l0 : Nat → ByteArray → ByteArray → Int → Int → List ByteArray → Int → Option (List ByteArray)
 | 0, _, _, _, _, _, _ => none
 | k + 1, x0, x1, x2, x3, x9, x10 => if x10 < x3 then ((strings_Index.f x0 x1).bind fun t105 => (if t105 < 0 then (if 0 ≤ x10 then (if x10 < (x9.length : Int) then (if 0 ≤ (wrap64 (x10 + 1)) then (if (wrap64 (x10 + 1)) ≤ (x9.length : Int) then (some ((x9.set (x10 : Int).toNat x0).take ((wrap64 (x10 + 1)) : Int).toNat)) else (none)) else (none)) else (none)) else (none)) else (if 0 ≤ (wrap64 (t105 + x2)) then (if (wrap64 (t105 + x2)) ≤ (x0.size : Int) then (if 0 ≤ x10 then (if x10 < (x9.length : Int) then (if 0 ≤ (wrap64 (t105 + (x1.size : Int))) then (if (wrap64 (t105 + (x1.size : Int))) ≤ (x0.size : Int) then (strings_genSplit.l0 k (x0.extract ((wrap64 (t105 + (x1.size : Int))) : Int).toNat x0.size) x1 x2 x3 (x9.set (x10 : Int).toNat (x0.extract 0 ((wrap64 (t105 + x2)) : Int).toNat)) (wrap64 (x10 + 1))) else (none)) else (none)) else (none)) else (none)) else (none)) else (none)))) else (if 0 ≤ x10 then (if x10 < (x9.length : Int) then (if 0 ≤ (wrap64 (x10 + 1)) then (if (wrap64 (x10 + 1)) ≤ (x9.length : Int) then (some ((x9.set (x10 : Int).toNat x0).take ((wrap64 (x10 + 1)) : Int).toNat)) else (none)) else (none)) else (none)) else (none))
end
def strings_genSplit.f (k : Nat) (a0 : ByteArray) (a1 : ByteArray) (a2 : Int) (a3 : Int) : Option (List ByteArray) := if a3 = 0 then (some ([] : List ByteArray)) else (if a1.toList = ([] : List UInt8) then (none) else (if a3 < 0 then ((strings_Count.f a0 a1).bind fun t101 => (strings_genSplit.j0 k a0 a1 a2 (wrap64 (t101 + 1)))) else (strings_genSplit.j0 k a0 a1 a2 a3)))
theorem strings_genSplit.mono_l : ∀ k, (∀ y0 y1 y2 y3, LeO (strings_genSplit.j0 k y0 y1 y2 y3) (strings_genSplit.j0 (k + 1) y0 y1 y2 y3)) ∧ (∀ y0 y1 y2 y3 y4 y5, LeO (strings_genSplit.l0 k y0 y1 y2 y3 y4 y5) (strings_genSplit.l0 (k + 1) y0 y1 y2 y3 y4 y5))
 | 0 => ⟨fun _ _ _ _ r h => by simp [strings_genSplit.j0] at h, fun _ _ _ _ _ _ r h => by simp [strings_genSplit.l0] at h⟩
 | k + 1 => by
  obtain ⟨ih0, ih1⟩ := strings_genSplit.mono_l k
  refine ⟨?_, ?_⟩
  ·
   intro y0 y1 y2 y3
   unfold strings_genSplit.j0
   with_reducible repeat' first | exact ih0 _ _ _ _ | exact ih1 _ _ _ _ _ _ | exact LeO.refl _ | exact LeO.none _ | refine LeO.ite ?_ ?_ | refine LeO.bind ?_ (fun _ => ?_)
  ·
   intro y0 y1 y2 y3 y4 y5
   unfold strings_genSplit.l0
   with_reducible repeat' first | exact ih0 _ _ _ _ | exact ih1 _ _ _ _ _ _ | exact LeO.refl _ | exact LeO.none _ | refine LeO.ite ?_ ?_ | refine LeO.bind ?_ (fun _ => ?_)
theorem strings_genSplit.mono : ∀ a0 a1 a2 a3 k, LeO (strings_genSplit.f k a0 a1 a2 a3) (strings_genSplit.f (k + 1) a0 a1 a2 a3) := by
 intro a0 a1 a2 a3 k
 obtain ⟨ih0, ih1⟩ := strings_genSplit.mono_l k
 unfold strings_genSplit.f
 with_reducible repeat' first | exact ih0 _ _ _ _ | exact ih1 _ _ _ _ _ _ | exact LeO.refl _ | exact LeO.none _ | refine LeO.ite ?_ ?_ | refine LeO.bind ?_ (fun _ => ?_)
theorem strings_genSplit.calls (k : Nat) (a0 : ByteArray) (a1 : ByteArray) (a2 : Int) (a3 : Int) (r : List ByteArray) (w : World) (h : strings_genSplit.f k a0 a1 a2 a3 = some r) :
  Calls Tryd.prog 87 #[.string a0, .string a1, .int .i64 a2, .int .i64 a3] w fun e w' => ∃ v0_ : Value, e = .returned (v0_) ∧ Kd.R Kd.string 9 w' w.heap.size (fun _ => True) v0_ r ∧ Below w.heap.size w w' := by
 have HB := aa (Below.refl w.heap.size w)
 have H : (if a3 = 0 then (some ([] : List ByteArray)) else (if a1.toList = ([] : List UInt8) then (none) else (if a3 < 0 then ((strings_Count.f a0 a1).bind fun t101 => (strings_genSplit.j0 k a0 a1 a2 (wrap64 (t101 + 1)))) else (strings_genSplit.j0 k a0 a1 a2 a3)))) = some r := h
 clear h
 revert H
 refine itE_ (fun c5b0 c5b1 H => ?_) fun c5b0 c5b1 H => ?_
 ·
  obtain rfl := Option.some.inj H
  go_enter Tryd.func87, Tryd.ntmps87
  go_wp2
  go_ret
  exact ⟨_, zlhpib, zhijhk, zjjbob⟩
 revert H
 refine itC_ (fun c6 H => ?_) fun c6 H => ?_
 ·
  exact absurd H (by simp)
 have c6b0 := beq_eq_false_iff_ne.mpr c6
 have c6b1 := bne_iff_ne.mpr c6
 have HC7 := aa H
 clear H
 go_enter Tryd.func87, Tryd.ntmps87
 go_upto_if 20 with (fail)
 go_cut [3] (fun v3 wc => ∃ (kq : Nat) (x3_6 : Int), v3 = .int .i64 x3_6 ∧ Aside0 (strings_genSplit.j0 kq a0 a1 a2 x3_6 = some r) ∧ Aside0 (kq ≤ k) ∧ Aside0 (Below w.heap.size w wc))
 case first =>
  have H := HC7.out
  clear HC7
  revert H
  refine itD_ (fun c8b0 H => ?_) fun c8b0 H => ?_
  ·
   (first | rw [c8b0] | (simp only [i64_w, i32_w]; rw [c8b0]) | (simp only [c8b2, Bool.not_false, Bool.not_true]) | skip)
   revert H
   refine obs_ fun t101 A9 H => ?_
   have H' := aa H
   clear H
   go_wp2_with (first | (refine gc_ Tryd.func68 (some 23) #[.string a0, .string a1] ?_; (with_reducible refine (strings_Count.calls a0 a1 t101 _ A9.out).mono ?_); rintro e w' ⟨rfl, ⟨nd, rfl⟩⟩; refine ⟨_, rfl, ?_⟩))
   go_meet
   case rel => exact ⟨_, (wrap64 (t101 + 1)), zagbkp, H', ⟨zpacfg⟩, ⟨zjjbob⟩⟩
  (first | rw [c8b0] | (simp only [i64_w, i32_w]; rw [c8b0]) | (simp only [c8b2, Bool.not_false, Bool.not_true]) | skip)
  have H' := aa H
  clear H
  go_wp2
  go_meet
  case rel => exact ⟨_, (a3), zagbkp, H', ⟨zpacfg⟩, ⟨zjjbob⟩⟩
 case rest =>
  clear HC7
  try clear p2
  try clear c5b0
  try clear c5b1
  try clear c6
  try clear c6b0
  try clear c6b1
  try clear p6
  try clear c8b0
  try clear c8b2
  obtain ⟨kq, x3_6, rfl, HA, HJ6, HB⟩ := hcut
  cases kq with
  | zero => exact absurd HA.out (by simp [strings_genSplit.j0])
  | succ kj6 =>
   have H := HA.out
   clear HA
   simp only [strings_genSplit.j0] at H
   obtain ⟨ji10, hji10⟩ : ∃ j_ : Int, (mn x3_6 (wrap64 ((a0.size : Int) + 1))) = j_ := ⟨_, rfl⟩
   first | rw [hji10] at H | simp only [hji10] at H
   have hji10_ : (if (wrap64 ((a0.size : Int) + 1)) < x3_6 then (wrap64 ((a0.size : Int) + 1)) else x3_6) = ji10 := hji10
   revert H
   refine itG_ fun c11 H => ?_
   have c11b0 := eq_true c11
   have c11b1 := decide_eq_true c11
   clear c11
   revert H
   refine itG_ fun c12 H => ?_
   have c12b0 := eq_true c12
   have c12b1 := decide_eq_true c12
   clear c12
   obtain ⟨y102, hy102⟩ : ∃ y_ : List ByteArray, y_ = (List.replicate (ji10 : Int).toNat (⟨#[]⟩ : ByteArray)) := ⟨_, rfl⟩
   replace H : (strings_genSplit.l0 kj6 a0 a1 a2 (wrap64 ((ji10) - 1)) y102 0) = some r := by cases hy102; exact H
   have Ny102 := aa hy102
   clear hy102
   have H' := aa H
   clear H
   go_wp2_with (first | ((with_reducible refine gate_dst (N := 31) rfl ?_); refine Kd.R_make Kd.string _ 9 rfl (N := 31) rfl 38 _ _ rfl ji10 rfl rfl Tryd.underlying38 (.string ⟨#[]⟩) 16 info9 rfl (by decide) (by omega) (⟨#[]⟩ : ByteArray) (ok := fun _ => True) (okp := fun _ => True) rfl (fun _ hk => hk) trivial (of_decide_eq_true zgglam) (Nat.le_trans (Nat.mul_le_mul_right _ (of_decide_eq_true zgglam : ji10.toNat ≤ 17592186044416)) (by omega)) (Below.refl _ _) (Nat.le_refl _) ?_; intro v103 w13 ho14 hb hg_ hnew_; clear hg_ hnew_; (first | rw [← Ny102.out] at ho14 | (simp only [Int.reduceToNat] at ho14; rw [← Ny102.out] at ho14)); have HO104 := aa (Kd.R_lower ho14 (below_size zjjbob)); replace HB := aa (below_step zjjbob hb); clear hb ho14))
   go_loopg [0, 10] kj6 (fun kq v0 v10 w' => ∃ (x0_2 : ByteArray) (x9_2 : List ByteArray) (x10_2 : Int), v0 = .string x0_2 ∧ v10 = .int .i64 x10_2 ∧ Aside0 (strings_genSplit.l0 kq x0_2 a1 a2 (wrap64 ((ji10) - 1)) x9_2 x10_2 = some r) ∧ Aside0 (kq ≤ kj6) ∧ Aside0 (Kd.R Kd.string 9 w' w.heap.size (fun _ => True) v103 x9_2) ∧ Aside0 (Below w.heap.size w w'))
   case atStart => exact ⟨(a0), (y102), (0), zagbkp, zagbkp, H', ⟨Nat.le_refl _⟩, ⟨zcaken HO104.out⟩, ⟨zjjbob⟩⟩
   case round =>
    clear H'
    try clear p2
    try clear c5b0
    try clear c5b1
    try clear c6
    try clear c6b0
    try clear c6b1
    try clear p6
    try clear c8b0
    try clear c8b2
    try clear c11
    try clear c11b0
    try clear c11b1
    try clear c12
    try clear c12b0
    try clear c12b1
    try clear p2
    try clear p6
    obtain ⟨x0_2, x9_2, x10_2, rfl, rfl, HA, HK2, HO_9, HB⟩ := hrel
    cases gk with
    | zero => exact absurd HA.out (by simp [strings_genSplit.l0])
    | succ k2 =>
     have H := HA.out
     clear HA
     simp only [strings_genSplit.l0] at H
     revert H
     refine itD_ (fun c15b0 H => ?_) fun c15b0 H => ?_
     ·
      revert H
      refine obs_ fun t105 A16 H => ?_
      revert H
      refine itD_ (fun c17b0 H => ?_) fun c17b0 H => ?_
      ·
       revert H
       refine itH_ fun c18b0 H => ?_
       revert H
       refine itH_ fun c19b0 H => ?_
       obtain ⟨y106, hy106⟩ : ∃ y_ : List ByteArray, y_ = (x9_2.set (x10_2 : Int).toNat x0_2) := ⟨_, rfl⟩
       replace H : (if 0 ≤ (wrap64 (x10_2 + 1)) then (if (wrap64 (x10_2 + 1)) ≤ (x9_2.length : Int) then (some (y106.take ((wrap64 (x10_2 + 1)) : Int).toNat)) else (none)) else (none)) = some r := by cases hy106; exact H
       have Ny106 := aa hy106
       clear hy106
       obtain ⟨ji21, hji21⟩ : ∃ j_ : Int, (wrap64 (x10_2 + 1)) = j_ := ⟨_, rfl⟩
       first | rw [hji21] at H | simp only [hji21] at H
       (try rw [hji21] at A16)
       have hji21w : (IntKind.i64.wrap (x10_2 + 1)) = ji21 := (i64_w _).trans hji21
       revert H
       refine itG_ fun c22 H => ?_
       have c22b0 := eq_true c22
       have c22b1 := decide_eq_true c22
       clear c22
       revert H
       refine itG_ fun c23 H => ?_
       have c23b0 := eq_true c23
       have c23b1 := decide_eq_true c23
       clear c23
       obtain ⟨y107, hy107⟩ : ∃ y_ : List ByteArray, y_ = (y106.take ((ji21) : Int).toNat) := ⟨_, rfl⟩
       replace H : (some y107) = some r := by cases hy107; exact H
       have Ny107 := aa hy107
       clear hy107
       obtain rfl := Option.some.inj H
       go_wp2_with (first | (refine gc_ Tryd.func86 (some 39) #[.string x0_2, .string a1] ?_; (with_reducible refine (strings_Index.calls x0_2 a1 t105 _ A16.out).mono ?_); rintro e w' ⟨rfl, ⟨nd, rfl⟩⟩; refine ⟨_, rfl, ?_⟩; (try (rw [drewN_self wr]; generalize hq_ : World.drewN wr _ = wr; have n0_ : Aside0 (Kd.R Kd.string 9 wr w.heap.size (fun _ => True) v103 x9_2) := ⟨by rw [← hq_]; exact (zcaken HO_9.out)⟩; have n1_ : Aside0 (Below w.heap.size w wr) := ⟨by rw [← hq_]; exact zjjbob⟩; clear HO_9 HB hq_; have HO_9 := n0_; have HB := n1_; clear n0_ n1_)); have p20 : 0 ≤ (x10_2 : Int) := of_decide_eq_true zgglam; have q20 : (x10_2 : Int) < ((x9_2.length : Int) : Int) := of_decide_eq_true zgglam; obtain ⟨go20, co20, eo20, gb20, gl20, cl20, HG20⟩ := Kd.R_form HO_9.out (by omega); (first | cases eo20 | (injection eo20 with ea_ en_ ec_; (first | subst ea_ | (injection ea_ with ea_; subst ea_)); subst ec_; clear en_)); have GB20 := aa gb20; have GG20 := aa HG20; clear gb20 gl20 HG20; obtain ⟨hx20_0, hf20_0⟩ := Kd.R_celln (⟨#[]⟩ : ByteArray) HO_9.out (x10_2 : Int) p20 q20; replace p20 := eq_true p20; replace q20 := eq_true q20; obtain ⟨hy24_, hz24_⟩ := Kd.R_celln (⟨#[]⟩ : ByteArray) HO_9.out (x10_2 : Int) (of_decide_eq_true zgglam) (of_decide_eq_true zgglam); have HP24 := Kd.R_putg HO_9.out (x10_2 : Int) x0_2) | ((with_reducible refine gate_store (t := 9) (p := 61) rfl ?_); refine store_event (t := 9) (p := 61) (v := ?vo_w25) (w1 := (wr.setCell ⟨go20, (x10_2 : Int).toNat, none⟩ (.string x0_2))) ?hg ?ho ?hn ?hr ?_; (case ho => rfl); (case hg => rfl); (case hn => rfl); (case hr => exact zhlgcp); intro w25 hw; have hg : wr.grownBy w25 (some go20) := (by rw [hw]; exact HP24.2); have hp_ : Kd.R Kd.string 9 w25 w.heap.size (fun _ => True) (.slice (some ⟨go20, 0, none⟩) x9_2.length co20) y106 := (by rw [hw, Ny106.out]; exact HP24.1); clear HP24; have n0_ := aa (hp_); have n1_ := aa ((by rw [hw]; exact below_set (HB.out) GB20.out : Below w.heap.size w w25)); clear HO_9; clear HB; have HO_9 := n0_; have HB := n1_; clear n0_ n1_; clear hg hw hp_; have q26 : ((ji21) : Int) ≤ ((x9_2.length : Int) : Int) := of_decide_eq_true zgglam; obtain ⟨i026, hi026, _, hsz26, _⟩ := info_parts info9; have hcut26 := cut_to (P := Tryd.prog) 38 9 .i64 Tryd.underlying38 hi026 (some ⟨go20, 0, none⟩) x9_2.length co20 (ji21) (of_decide_eq_true zgglam) q26 (Kd.R_reads' HO_9.out).2.1; have hr26 := Kd.R_take (m := ((ji21) : Int).toNat) HO_9.out (by omega); have hy26 : y107.length = ((ji21) : Int).toNat := (by rw [Ny107.out, List.length_take]; omega); rw [← Ny107.out] at hr26; rw [← hy26] at hr26 hcut26; clear hy26 hi026 hsz26 HO_9; have HO109 := aa hr26; clear hr26; replace q26 := eq_true q26))
       ·
        go_ret
        have hq_ : Kd.R Kd.string 9 (wr.setCell ⟨go20, (x10_2 : Int).toNat, none⟩ (.string x0_2)) w.heap.size (fun _ => True) (.slice (some ⟨go20, 0, none⟩) x9_2.length co20) y106 := by rw [Ny106.out]; exact HP24.1
        have q_ : (ji21 : Int) ≤ (x9_2.length : Int) := of_decide_eq_true (by assumption)
        have hr_ := Kd.R_take (m := ((ji21) : Int).toNat) hq_ (by rw [Ny106.out, List.length_set]; omega)
        rw [← Ny107.out] at hr_
        exact ⟨_, rfl, hr_, below_set HB.out GB20.out⟩
       exfalso
       have q_ : (ji21 : Int) ≤ (x9_2.length : Int) := of_decide_eq_true (by assumption)
       have := (Kd.R_reads' HO_9.out).2.1
       omega
      obtain ⟨ji27, hji27⟩ : ∃ j_ : Int, (wrap64 (t105 + a2)) = j_ := ⟨_, rfl⟩
      first | rw [hji27] at H | simp only [hji27] at H
      (try rw [hji27] at A16)
      have hji27w : (IntKind.i64.wrap (t105 + a2)) = ji27 := (i64_w _).trans hji27
      revert H
      refine itG_ fun c28 H => ?_
      have c28b0 := eq_true c28
      have c28b1 := decide_eq_true c28
      clear c28
      revert H
      refine itG_ fun c29 H => ?_
      have c29b0 := eq_true c29
      have c29b1 := decide_eq_true c29
      clear c29
      revert H
      refine itH_ fun c30b0 H => ?_
      revert H
      refine itH_ fun c31b0 H => ?_
      obtain ⟨y110, hy110⟩ : ∃ y_ : List ByteArray, y_ = (x9_2.set (x10_2 : Int).toNat (x0_2.extract 0 ((ji27) : Int).toNat)) := ⟨_, rfl⟩
      replace H : (if 0 ≤ (wrap64 (t105 + (a1.size : Int))) then (if (wrap64 (t105 + (a1.size : Int))) ≤ (x0_2.size : Int) then (strings_genSplit.l0 k2 (x0_2.extract ((wrap64 (t105 + (a1.size : Int))) : Int).toNat x0_2.size) a1 a2 (wrap64 ((ji10) - 1)) y110 (wrap64 (x10_2 + 1))) else (none)) else (none)) = some r := by cases hy110; exact H
      have Ny110 := aa hy110
      clear hy110
      obtain ⟨ji33, hji33⟩ : ∃ j_ : Int, (wrap64 (t105 + (a1.size : Int))) = j_ := ⟨_, rfl⟩
      first | rw [hji33] at H | simp only [hji33] at H
      (try rw [hji33] at A16)
      have hji33w : (IntKind.i64.wrap (t105 + (a1.size : Int))) = ji33 := (i64_w _).trans hji33
      revert H
      refine itG_ fun c34 H => ?_
      have c34b0 := eq_true c34
      have c34b1 := decide_eq_true c34
      clear c34
      revert H
      refine itG_ fun c35 H => ?_
      have c35b0 := eq_true c35
      have c35b1 := decide_eq_true c35
      clear c35
      have H' := aa H
      clear H
      go_wp2_with (first | (refine gc_ Tryd.func86 (some 39) #[.string x0_2, .string a1] ?_; (with_reducible refine (strings_Index.calls x0_2 a1 t105 _ A16.out).mono ?_); rintro e w' ⟨rfl, ⟨nd, rfl⟩⟩; refine ⟨_, rfl, ?_⟩; (try (rw [drewN_self wr]; generalize hq_ : World.drewN wr _ = wr; have n0_ : Aside0 (Kd.R Kd.string 9 wr w.heap.size (fun _ => True) v103 x9_2) := ⟨by rw [← hq_]; exact (zcaken HO_9.out)⟩; have n1_ : Aside0 (Below w.heap.size w wr) := ⟨by rw [← hq_]; exact zjjbob⟩; clear HO_9 HB hq_; have HO_9 := n0_; have HB := n1_; clear n0_ n1_)); have p32 : 0 ≤ (x10_2 : Int) := of_decide_eq_true zgglam; have q32 : (x10_2 : Int) < ((x9_2.length : Int) : Int) := of_decide_eq_true zgglam; obtain ⟨go32, co32, eo32, gb32, gl32, cl32, HG32⟩ := Kd.R_form HO_9.out (by omega); (first | cases eo32 | (injection eo32 with ea_ en_ ec_; (first | subst ea_ | (injection ea_ with ea_; subst ea_)); subst ec_; clear en_)); have GB32 := aa gb32; have GG32 := aa HG32; clear gb32 gl32 HG32; obtain ⟨hx32_0, hf32_0⟩ := Kd.R_celln (⟨#[]⟩ : ByteArray) HO_9.out (x10_2 : Int) p32 q32; replace p32 := eq_true p32; replace q32 := eq_true q32; obtain ⟨hy36_, hz36_⟩ := Kd.R_celln (⟨#[]⟩ : ByteArray) HO_9.out (x10_2 : Int) (of_decide_eq_true zgglam) (of_decide_eq_true zgglam); have HP36 := Kd.R_putg HO_9.out (x10_2 : Int) (x0_2.extract 0 ((ji27) : Int).toNat)) | ((with_reducible refine gate_store (t := 9) (p := 49) rfl ?_); refine store_event (t := 9) (p := 49) (v := ?vo_w37) (w1 := (wr.setCell ⟨go32, (x10_2 : Int).toNat, none⟩ (.string (x0_2.extract 0 ((ji27) : Int).toNat)))) ?hg ?ho ?hn ?hr ?_; (case ho => rfl); (case hg => rfl); (case hn => rfl); (case hr => exact zhlgcp); intro w37 hw; have hg : wr.grownBy w37 (some go32) := (by rw [hw]; exact HP36.2); have hp_ : Kd.R Kd.string 9 w37 w.heap.size (fun _ => True) (.slice (some ⟨go32, 0, none⟩) x9_2.length co32) y110 := (by rw [hw, Ny110.out]; exact HP36.1); clear HP36; have n0_ := aa (hp_); have n1_ := aa ((by rw [hw]; exact below_set (HB.out) GB32.out : Below w.heap.size w w37)); clear HO_9; clear HB; have HO_9 := n0_; have HB := n1_; clear n0_ n1_; clear hg hw hp_))
      go_roundg k2
      case measure => have := HJ6.out; have := HK2.out; omega
      case rel => exact ⟨(x0_2.extract ((ji33) : Int).toNat x0_2.size), (y110), (wrap64 (x10_2 + 1)), (by first | rfl | (simp; done) | (simp only [← hji33] <;> (first | rfl | simp)) | (simp [*]; done)), zagbkp, H', ⟨by have := HJ6.out; have := HK2.out; omega⟩, ⟨zcaken HO_9.out⟩, ⟨zjjbob⟩⟩
     ·
      revert H
      refine itH_ fun c38b0 H => ?_
      revert H
      refine itH_ fun c39b0 H => ?_
      obtain ⟨y111, hy111⟩ : ∃ y_ : List ByteArray, y_ = (x9_2.set (x10_2 : Int).toNat x0_2) := ⟨_, rfl⟩
      replace H : (if 0 ≤ (wrap64 (x10_2 + 1)) then (if (wrap64 (x10_2 + 1)) ≤ (x9_2.length : Int) then (some (y111.take ((wrap64 (x10_2 + 1)) : Int).toNat)) else (none)) else (none)) = some r := by cases hy111; exact H
      have Ny111 := aa hy111
      clear hy111
      obtain ⟨ji41, hji41⟩ : ∃ j_ : Int, (wrap64 (x10_2 + 1)) = j_ := ⟨_, rfl⟩
      first | rw [hji41] at H | simp only [hji41] at H
      have hji41w : (IntKind.i64.wrap (x10_2 + 1)) = ji41 := (i64_w _).trans hji41
      revert H
      refine itG_ fun c42 H => ?_
      have c42b0 := eq_true c42
      have c42b1 := decide_eq_true c42
      clear c42
      revert H
      refine itG_ fun c43 H => ?_
      have c43b0 := eq_true c43
      have c43b1 := decide_eq_true c43
      clear c43
      obtain ⟨y112, hy112⟩ : ∃ y_ : List ByteArray, y_ = (y111.take ((ji41) : Int).toNat) := ⟨_, rfl⟩
      replace H : (some y112) = some r := by cases hy112; exact H
      have Ny112 := aa hy112
      clear hy112
      obtain rfl := Option.some.inj H
      have p40 : 0 ≤ (x10_2 : Int) := of_decide_eq_true zgglam
      have q40 : (x10_2 : Int) < ((x9_2.length : Int) : Int) := of_decide_eq_true zgglam
      obtain ⟨go40, co40, eo40, gb40, gl40, cl40, HG40⟩ := Kd.R_form HO_9.out (by omega)
      (first | cases eo40 | (injection eo40 with ea_ en_ ec_; (first | subst ea_ | (injection ea_ with ea_; subst ea_)); subst ec_; clear en_))
      have GB40 := aa gb40
      have GG40 := aa HG40
      clear gb40 gl40 HG40
      obtain ⟨hx40_0, hf40_0⟩ := Kd.R_celln (⟨#[]⟩ : ByteArray) HO_9.out (x10_2 : Int) p40 q40
      replace p40 := eq_true p40
      replace q40 := eq_true q40
      have HP44 := Kd.R_putg HO_9.out (x10_2 : Int) x0_2
      go_wp2_with (first | ((with_reducible refine gate_store (t := 9) (p := 61) rfl ?_); refine store_event (t := 9) (p := 61) (v := ?vo_w45) (w1 := (wr.setCell ⟨go40, (x10_2 : Int).toNat, none⟩ (.string x0_2))) ?hg ?ho ?hn ?hr ?_; (case ho => rfl); (case hg => rfl); (case hn => rfl); (case hr => exact zhlgcp); intro w45 hw; have hg : wr.grownBy w45 (some go40) := (by rw [hw]; exact HP44.2); have hp_ : Kd.R Kd.string 9 w45 w.heap.size (fun _ => True) (.slice (some ⟨go40, 0, none⟩) x9_2.length co40) y111 := (by rw [hw, Ny111.out]; exact HP44.1); clear HP44; have n0_ := aa (hp_); have n1_ := aa ((by rw [hw]; exact below_set (HB.out) GB40.out : Below w.heap.size w w45)); clear HO_9; clear HB; have HO_9 := n0_; have HB := n1_; clear n0_ n1_; clear hg hw hp_; have q46 : ((ji41) : Int) ≤ ((x9_2.length : Int) : Int) := of_decide_eq_true zgglam; obtain ⟨i046, hi046, _, hsz46, _⟩ := info_parts info9; have hcut46 := cut_to (P := Tryd.prog) 38 9 .i64 Tryd.underlying38 hi046 (some ⟨go40, 0, none⟩) x9_2.length co40 (ji41) (of_decide_eq_true zgglam) q46 (Kd.R_reads' HO_9.out).2.1; have hr46 := Kd.R_take (m := ((ji41) : Int).toNat) HO_9.out (by omega); have hy46 : y112.length = ((ji41) : Int).toNat := (by rw [Ny112.out, List.length_take]; omega); rw [← Ny112.out] at hr46; rw [← hy46] at hr46 hcut46; clear hy46 hi046 hsz46 HO_9; have HO114 := aa hr46; clear hr46; replace q46 := eq_true q46))
      ·
       go_ret
       have hq_ : Kd.R Kd.string 9 (wr.setCell ⟨go40, (x10_2 : Int).toNat, none⟩ (.string x0_2)) w.heap.size (fun _ => True) (.slice (some ⟨go40, 0, none⟩) x9_2.length co40) y111 := by rw [Ny111.out]; exact HP44.1
       have q_ : (ji41 : Int) ≤ (x9_2.length : Int) := of_decide_eq_true (by assumption)
       have hr_ := Kd.R_take (m := ((ji41) : Int).toNat) hq_ (by rw [Ny111.out, List.length_set]; omega)
       rw [← Ny112.out] at hr_
       exact ⟨_, rfl, hr_, below_set HB.out GB40.out⟩
      exfalso
      have q_ : (ji41 : Int) ≤ (x9_2.length : Int) := of_decide_eq_true (by assumption)
      have := (Kd.R_reads' HO_9.out).2.1
      omega
end Go.Proofs.YtegggpipggniaaaDoor.Qa
