import Derived.Test.YtegggpipggniaaaDoorQax0
import Derived.Test.YtegggpipggniaaaDoorQax10
import Derived.Test.YtegggpipggniaaaDoorQax11
import Derived.Test.YtegggpipggniaaaDoorQax14
namespace Go.Proofs.YtegggpipggniaaaDoor.Qa
open Go.RowKit Go.Proofs.YtegggpipggniaaaDoorW.PrintWords Go.Proofs.YtegggpipggniaaaDoorW.PrintLast Go.Proofs.YtegggpipggniaaaDoorW.PrintMore
attribute [local go_sem] max2_int min2_int max_two min_two max_three min_three max_four min_four
set_option linter.unusedVariables false
set_option linter.unusedSimpArgs false
set_option maxHeartbeats 8000000
set_option maxRecDepth 100000

/-! ### impl_PathFault: function 44 -/
mutual
def impl_PathFault.j0 : Nat → ByteArray → Bool → Option (Int)
 | 0, _, _ => none
 | k + 1, x0, x13 => if x13 = true then (some 2) else (if x0.toList = ([47] : List UInt8) then (some 0) else ((strings_Split.f k x0 (⟨#[47]⟩ : ByteArray)).bind fun t102 => (if (t102.length : Int) < 2 then (impl_PathFault.j1 k t102 true) else (if 0 < (t102.length : Int) then (impl_PathFault.j1 k t102 ((rdOf ByteArray.empty t102 0).toList != ([] : List UInt8))) else (none)))))
def impl_PathFault.j1 : Nat → List ByteArray → Bool → Option (Int)
 | 0, _, _ => none
 | k + 1, x3, x26 => if x26 = true then (some 5) else (if 1 ≤ (x3.length : Int) then ((some (x3.drop 1 : List ByteArray)).bind fun y106 => (impl_PathFault.l0 k y106 (y106.length : Int) 0)) else (none))
def impl_PathFault.l0 : Nat → List ByteArray → Int → Int → Option (Int)
 | 0, _, _, _ => none
 | k + 1, x28, x29, x30 => if x30 < x29 then (if 0 ≤ x30 then (if x30 < (x28.length : Int) then ((impl_isName.f k (rdOf ByteArray.empty x28 x30)).bind fun t111 => (if t111 = true then (impl_PathFault.l0 k x28 x29 (wrap64 (x30 + 1))) else (some 5))) else (none)) else (none)) else (some 0)
end
def impl_PathFault.f (k : Nat) (a0 : ByteArray) : Option (Int) := if (a0.size : Int) > 24 then (impl_PathFault.j0 k a0 true) else ((strings_Count.f a0 (⟨#[47]⟩ : ByteArray)).bind fun t101 => (impl_PathFault.j0 k a0 (decide (t101 > 4))))
theorem impl_PathFault.mono_l : ∀ k, (∀ y0 y1, LeO (impl_PathFault.j0 k y0 y1) (impl_PathFault.j0 (k + 1) y0 y1)) ∧ (∀ y0 y1, LeO (impl_PathFault.j1 k y0 y1) (impl_PathFault.j1 (k + 1) y0 y1)) ∧ (∀ y0 y1 y2, LeO (impl_PathFault.l0 k y0 y1 y2) (impl_PathFault.l0 (k + 1) y0 y1 y2))
 | 0 => ⟨fun _ _ r h => by simp [impl_PathFault.j0] at h, fun _ _ r h => by simp [impl_PathFault.j1] at h, fun _ _ _ r h => by simp [impl_PathFault.l0] at h⟩
 | k + 1 => by
  obtain ⟨ih0, ih1, ih2⟩ := impl_PathFault.mono_l k
  refine ⟨?_, ?_, ?_⟩
  ·
   intro y0 y1
   unfold impl_PathFault.j0
   with_reducible repeat' first | exact ih0 _ _ | exact ih1 _ _ | exact ih2 _ _ _ | exact impl_isName.mono _ _ | exact strings_Split.mono _ _ _ | exact LeO.refl _ | exact LeO.none _ | refine LeO.ite ?_ ?_ | refine LeO.bind ?_ (fun _ => ?_)
  ·
   intro y0 y1
   unfold impl_PathFault.j1
   with_reducible repeat' first | exact ih0 _ _ | exact ih1 _ _ | exact ih2 _ _ _ | exact impl_isName.mono _ _ | exact strings_Split.mono _ _ _ | exact LeO.refl _ | exact LeO.none _ | refine LeO.ite ?_ ?_ | refine LeO.bind ?_ (fun _ => ?_)
  ·
   intro y0 y1 y2
   unfold impl_PathFault.l0
   with_reducible repeat' first | exact ih0 _ _ | exact ih1 _ _ | exact ih2 _ _ _ | exact impl_isName.mono _ _ | exact strings_Split.mono _ _ _ | exact LeO.refl _ | exact LeO.none _ | refine LeO.ite ?_ ?_ | refine LeO.bind ?_ (fun _ => ?_)
theorem impl_PathFault.mono : ∀ a0 k, LeO (impl_PathFault.f k a0) (impl_PathFault.f (k + 1) a0) := by
 intro a0 k
 obtain ⟨ih0, ih1, ih2⟩ := impl_PathFault.mono_l k
 unfold impl_PathFault.f
 with_reducible repeat' first | exact ih0 _ _ | exact ih1 _ _ | exact ih2 _ _ _ | exact impl_isName.mono _ _ | exact strings_Split.mono _ _ _ | exact LeO.refl _ | exact LeO.none _ | refine LeO.ite ?_ ?_ | refine LeO.bind ?_ (fun _ => ?_)
theorem impl_PathFault.calls (k : Nat) (a0 : ByteArray) (r : Int) (w : World) (h : impl_PathFault.f k a0 = some r) :
  Calls Tryd.prog 44 #[.string a0] w fun e w' => e = .returned (.int .i64 r) ∧ Below w.heap.size w w' := by
 have HB := aa (Below.refl w.heap.size w)
 have H : (if (a0.size : Int) > 24 then (impl_PathFault.j0 k a0 true) else ((strings_Count.f a0 (⟨#[47]⟩ : ByteArray)).bind fun t101 => (impl_PathFault.j0 k a0 (decide (t101 > 4))))) = some r := h
 clear h
 have HC2 := aa H
 clear H
 go_enter Tryd.func44, Tryd.ntmps44
 go_upto_region 1 with (fail)
 go_cut [13] (fun v13 wc => ∃ (kq : Nat) (x13_1 : Bool), v13 = .bool x13_1 ∧ Aside0 (impl_PathFault.j0 kq a0 x13_1 = some r) ∧ Aside0 (kq ≤ k) ∧ Aside0 (Below w.heap.size w wc))
 case first =>
  have H := HC2.out
  clear HC2
  revert H
  refine itC_ (fun c3 H => ?_) fun c3 H => ?_
  ·
   have c3b0 : decide (24 < (a0.size : Int)) = true := decide_eq_true c3
   have c3b1 : decide (24 < a0.size) = true := decide_eq_true (by omega)
   clear c3
   (first | rw [c3b0] | (simp only [i64_w, i32_w]; rw [c3b0]) | (simp only [c3b2, Bool.not_false, Bool.not_true]) | skip)
   have H' := aa H
   clear H
   go_wp2
   go_meet
   case rel => exact ⟨_, (true), zagbkp, H', ⟨zpacfg⟩, ⟨zjjbob⟩⟩
  have c3b0 : decide (24 < (a0.size : Int)) = false := decide_eq_false c3
  have c3b1 : decide (24 < a0.size) = false := decide_eq_false (by omega)
  clear c3
  (first | rw [c3b0] | (simp only [i64_w, i32_w]; rw [c3b0]) | (simp only [c3b2, Bool.not_false, Bool.not_true]) | skip)
  revert H
  refine obs_ fun t101 A4 H => ?_
  have H' := aa H
  clear H
  go_wp2_with (first | (go_at_call 68; (with_reducible refine (strings_Count.calls a0 (⟨#[47]⟩ : ByteArray) t101 _ A4.out).mono ?_); rintro e w' ⟨rfl, ⟨nd, rfl⟩⟩))
  go_meet
  case rel => exact ⟨_, (decide (t101 > 4)), zagbkp, H', ⟨zpacfg⟩, ⟨zjjbob⟩⟩
 case rest =>
  clear HC2
  try clear p2
  try clear c3
  try clear c3b0
  try clear c3b1
  try clear c3b2
  obtain ⟨kq, x13_1, rfl, HA, HJ1, HB⟩ := hcut
  cases kq with
  | zero => exact absurd HA.out (by simp [impl_PathFault.j0])
  | succ kj1 =>
   have H := HA.out
   clear HA
   simp only [impl_PathFault.j0] at H
   by_cases c5 : x13_1 = true
   ·
    subst c5
    rw [if_pos rfl] at H
    obtain rfl := Option.some.inj H
    go_wp2
    go_ret
    exact ⟨zlhpib, zjjbob⟩
   ·
    replace c5 := Bool.eq_false_iff.mpr c5
    subst c5
    rw [if_neg fT_] at H
    revert H
    refine itE_ (fun c6b0 c6b1 H => ?_) fun c6b0 c6b1 H => ?_
    ·
     obtain rfl := Option.some.inj H
     go_wp2
     go_ret
     exact ⟨zlhpib, zjjbob⟩
    revert H
    refine obs_ fun t102 A7 H => ?_
    have HC8 := aa H
    clear H
    go_upto_region 6 with (first | (refine gc_ Tryd.func69 (some 17) #[.string a0, .string (⟨#[47]⟩ : ByteArray)] ?_; (with_reducible refine (strings_Split.calls kj1 a0 (⟨#[47]⟩ : ByteArray) t102 _ A7.out).mono ?_); rintro e w9 ⟨v103, rfl, ho0, hb⟩; refine ⟨_, rfl, ?_⟩; have HO104 := aa (Kd.R_lower ho0 (below_size zjjbob)); replace HB := aa (below_step zjjbob hb); (try clear hb hk hi ho0)))
    (try simp only [Act.put, List.setIfInBounds_toArray, List.set_cons_zero, List.set_cons_succ])
    go_cut [26] (fun v26 wc => ∃ (kq : Nat) (x26_7 : Bool), v26 = .bool x26_7 ∧ Aside0 (impl_PathFault.j1 kq t102 x26_7 = some r) ∧ Aside0 (kq ≤ kj1) ∧ Aside0 (Kd.R Kd.string 9 wc w.heap.size (fun _ => True) v103 t102) ∧ Aside0 (Below w.heap.size w wc))
    case first =>
     have H := HC8.out
     clear HC8
     revert H
     refine itC_ (fun c10 H => ?_) fun c10 H => ?_
     ·
      have c10b0 := decide_eq_true c10
      have c10b1 : decide (t102.length < 2) = true := decide_eq_true (by omega)
      clear c10
      (first | rw [c10b0] | (simp only [i64_w, i32_w]; rw [c10b0]) | (simp only [c10b2, Bool.not_false, Bool.not_true]) | skip)
      have H' := aa H
      clear H
      obtain ⟨Ao11, co11, eo11⟩ := Kd.R_slice HO104.out
      subst eo11
      go_wp2
      go_meet
      case rel => exact ⟨_, (true), zagbkp, H', ⟨by have := HJ1.out; first | omega | exact Nat.le_refl _⟩, ⟨zcaken HO104.out⟩, ⟨zjjbob⟩⟩
     have c10b0 := decide_eq_false c10
     have c10b1 : decide (t102.length < 2) = false := decide_eq_false (by omega)
     clear c10
     (first | rw [c10b0] | (simp only [i64_w, i32_w]; rw [c10b0]) | (simp only [c10b2, Bool.not_false, Bool.not_true]) | skip)
     revert H
     refine itG_ fun c12 H => ?_
     have c12b0 := decide_eq_true c12
     have c12b1 : decide (0 < t102.length) = true := decide_eq_true (by omega)
     clear c12
     have H' := aa H
     clear H
     obtain ⟨Ao13, co13, eo13⟩ := Kd.R_slice HO104.out
     subst eo13
     have p105 : 0 ≤ (0 : Int) := (by omega)
     have q105 : 0 < (t102.length : Int) := of_decide_eq_true zgglam
     obtain ⟨ad105, e105, hx105_0⟩ := Kd.at_string (Kd.R_reads' HO104.out).2.2 0 p105 q105
     cases e105
     have qi105 : (0 < t102.length) = True := eq_true (by omega)
     (try rw [show ((0 : Int)).toNat = 0 from rfl] at hx105_0)
     (try rw [Addr.add_zero'] at hx105_0)
     replace p105 := eq_true p105
     replace q105 := eq_true q105
     go_wp2
     go_meet
     case rel => exact ⟨_, (((rdOf ByteArray.empty t102 0).toList != ([] : List UInt8))), zheoaa, H', ⟨by have := HJ1.out; first | omega | exact Nat.le_refl _⟩, ⟨zcaken HO104.out⟩, ⟨zjjbob⟩⟩
    case rest =>
     clear HC8
     try clear p1
     try clear q1
     try clear hx1
     try clear qi1
     try clear p2
     try clear c3
     try clear c3b0
     try clear c3b1
     try clear c3b2
     try clear c5
     try clear c6b0
     try clear c6b1
     try clear c10
     try clear c10b0
     try clear c10b1
     try clear c10b2
     try clear p10
     try clear q10
     try clear hx10
     try clear qi10
     try clear c12
     try clear c12b0
     try clear c12b1
     try clear hx105_0
     try clear p105
     try clear p2
     try clear q105
     obtain ⟨kq, x26_7, rfl, HA, HJ7, HO_3, HB⟩ := hcut
     cases kq with
     | zero => exact absurd HA.out (by simp [impl_PathFault.j1])
     | succ kj7 =>
      have H := HA.out
      clear HA
      simp only [impl_PathFault.j1] at H
      by_cases c14 : x26_7 = true
      ·
       subst c14
       rw [if_pos rfl] at H
       obtain rfl := Option.some.inj H
       go_wp2
       go_ret
       exact ⟨zlhpib, zjjbob⟩
      ·
       replace c14 := Bool.eq_false_iff.mpr c14
       subst c14
       rw [if_neg fT_] at H
       revert H
       refine itG_ fun c15 H => ?_
       have c15b0 := eq_true c15
       have c15b1 := decide_eq_true c15
       clear c15
       revert H
       refine obl_ fun y106 Ny106 H => ?_
       have H' := aa H
       clear H
       obtain ⟨Ao17, co17, eo17⟩ := Kd.R_slice HO_3.out
       subst eo17
       have q16 : (1 : Int) ≤ ((t102.length : Int) : Int) := of_decide_eq_true zgglam
       obtain ⟨i016, hi016, _, hsz16, _⟩ := info_parts info9
       have hroom16 : t102.length ≤ co17 := (Kd.R_reads' HO_3.out).2.1
       have hC16 : Kd.C Kd.string _ Ao17 t102.length t102 := (Kd.R_reads' HO_3.out).2.2
       have hcut16 := cut_from (P := Tryd.prog) 38 9 .i64 Tryd.underlying38 hi016 1 hsz16 Ao17 t102.length co17 1 (by omega) q16
       have hr16 := Kd.C_drop (m := (1 : Int).toNat) (c := co17) hC16 (by omega) hroom16
       obtain ⟨A16, hA16⟩ : ∃ A1, A1 = (if co17 = (1 : Int).toNat then Ao17 else (Ao17 : Option Addr).map (·.add ((1 : Int).toNat * 1))) := ⟨_, rfl⟩
       obtain ⟨c16, hc16⟩ : ∃ c1, c1 = co17 - (1 : Int).toNat := ⟨_, rfl⟩
       have hy16 : y106.length = t102.length - (1 : Int).toNat := (by rw [Ny106.out, List.length_drop] <;> omega)
       rw [show (t102).drop (1 : Int).toNat = y106 from Ny106.out.symm] at hr16
       replace hr16 : Kd.C Kd.string _ A16 y106.length y106 := (by rw [hA16]; exact hr16)
       rw [← hy16, ← hA16, ← hc16] at hcut16
       have HR109 := aa hr16
       have HC109 := aa (show y106.length ≤ c16 from by rw [hy16, hc16]; exact Nat.sub_le_sub_right hroom16 _)
       clear hr16 hC16 hroom16 hi016 hsz16 hc16
       have KY16 := aa hy16
       have KA16 := aa hA16
       clear hy16 hA16
       have KL16 := aa (show 1 ≤ t102.length from by omega)
       replace q16 := eq_true q16
       go_wp2
       go_loopg [30] kj7 (fun kq v30 w' => ∃ (x30_3 : Int), v30 = .int .i64 x30_3 ∧ Aside0 (impl_PathFault.l0 kq y106 (y106.length : Int) x30_3 = some r) ∧ Aside0 (kq ≤ kj7) ∧ Aside0 (Kd.C Kd.string w' A16 y106.length y106) ∧ Aside0 (Below w.heap.size w w'))
       case atStart => exact ⟨(0), zagbkp, H', ⟨Nat.le_refl _⟩, ⟨zgjkjj⟩, ⟨zjjbob⟩⟩
       case round =>
        clear H'
        try clear p1
        try clear q1
        try clear hx1
        try clear qi1
        try clear p2
        try clear c3
        try clear c3b0
        try clear c3b1
        try clear c3b2
        try clear c5
        try clear c6b0
        try clear c6b1
        try clear c10
        try clear c10b0
        try clear c10b1
        try clear c10b2
        try clear p10
        try clear q10
        try clear hx10
        try clear qi10
        try clear c12
        try clear c12b0
        try clear c12b1
        try clear c14
        try clear c15
        try clear c15b0
        try clear c15b1
        try clear c16
        try clear q16
        try clear hx105_0
        try clear p1
        try clear p10
        try clear p105
        try clear p2
        try clear q1
        try clear q10
        try clear q105
        try clear q16
        obtain ⟨x30_3, rfl, HA, HK3, HR109, HB⟩ := hrel
        cases gk with
        | zero => exact absurd HA.out (by simp [impl_PathFault.l0])
        | succ k3 =>
         have H := HA.out
         clear HA
         simp only [impl_PathFault.l0] at H
         revert H
         refine itD_ (fun c18b0 H => ?_) fun c18b0 H => ?_
         ·
          revert H
          refine itH_ fun c19b0 H => ?_
          revert H
          refine itH_ fun c20b0 H => ?_
          revert H
          refine obs_ fun t111 A21 H => ?_
          by_cases c22 : t111 = true
          ·
           subst c22
           rw [if_pos rfl] at H
           have H' := aa H
           clear H
           have p110 : 0 ≤ (x30_3 : Int) := of_decide_eq_true zgglam
           have q110 : x30_3 < (y106.length : Int) := of_decide_eq_true zgglam
           obtain ⟨ad110, e110, hx110_0⟩ := Kd.at_string HR109.out x30_3 p110 q110
           cases e110
           replace p110 := eq_true p110
           replace q110 := eq_true q110
           go_wp2_with (first | (refine gc_ Tryd.func54 (some 35) #[.string (rdOf ByteArray.empty y106 x30_3)] ?_; (with_reducible refine (impl_isName.calls k3 (rdOf ByteArray.empty y106 x30_3) true _ A21.out).mono ?_); rintro e w' ⟨rfl, ⟨nd, rfl⟩⟩; refine ⟨_, rfl, ?_⟩))
           go_roundg k3
           case measure => have := HJ1.out; have := HJ7.out; have := HK3.out; omega
           case rel => exact ⟨(wrap64 (x30_3 + 1)), zagbkp, H', ⟨by have := HJ1.out; have := HJ7.out; have := HK3.out; omega⟩, ⟨zgjkjj⟩, ⟨zjjbob⟩⟩
          replace c22 := Bool.eq_false_iff.mpr c22
          subst c22
          rw [if_neg fT_] at H
          obtain rfl := Option.some.inj H
          have p110 : 0 ≤ (x30_3 : Int) := of_decide_eq_true zgglam
          have q110 : x30_3 < (y106.length : Int) := of_decide_eq_true zgglam
          obtain ⟨ad110, e110, hx110_0⟩ := Kd.at_string HR109.out x30_3 p110 q110
          cases e110
          replace p110 := eq_true p110
          replace q110 := eq_true q110
          go_wp2_with (first | (refine gc_ Tryd.func54 (some 35) #[.string (rdOf ByteArray.empty y106 x30_3)] ?_; (with_reducible refine (impl_isName.calls k3 (rdOf ByteArray.empty y106 x30_3) false _ A21.out).mono ?_); rintro e w' ⟨rfl, ⟨nd, rfl⟩⟩; refine ⟨_, rfl, ?_⟩))
          go_ret
          exact ⟨zlhpib, zjjbob⟩
         ·
          obtain rfl := Option.some.inj H
          go_wp2
          go_ret
          exact ⟨zlhpib, zjjbob⟩
end Go.Proofs.YtegggpipggniaaaDoor.Qa
