import Derived.Test.YtbeghfdlbokhkaaDoorQcx0
import Derived.Test.YtbeghfdlbokhkaaDoorQcx6
import Derived.Test.YtbeghfdlbokhkaaDoorQcx7
namespace Go.Proofs.YtbeghfdlbokhkaaDoor.Qc
open Go.RowKit Go.Proofs.YtbeghfdlbokhkaaDoorW.PrintWords Go.Proofs.YtbeghfdlbokhkaaDoorW.PrintLast Go.Proofs.YtbeghfdlbokhkaaDoorW.PrintMore
attribute [local go_sem] max2_int min2_int max_two min_two max_three min_three max_four min_four
set_option linter.unusedVariables false
set_option linter.unusedSimpArgs false
set_option maxHeartbeats 8000000
set_option maxRecDepth 100000

/-! ### spec_l1Names: function 44 -/
mutual
def spec_l1Names.j0 : Nat → List ByteArray → Bool → Option (List ByteArray × Bool)
 | 0, _, _ => none
 | k + 1, x4, x19 => if x19 = true then (some (([] : List ByteArray), false)) else (spec_l1Names.l0 k x4 1)
def spec_l1Names.l0 : Nat → List ByteArray → Int → Option (List ByteArray × Bool)
 | 0, _, _ => none
 | k + 1, x4, x5 => if x5 < (x4.length : Int) then (if 0 ≤ x5 then ((spec_l1Name.f k (rdOf ByteArray.empty x4 x5)).bind fun t109 => (if t109 = true then (spec_l1Names.l0 k x4 (wrap64 (x5 + 1))) else (some (([] : List ByteArray), false)))) else (none)) else (if 1 ≤ (x4.length : Int) then (some ((x4.drop (1 : Int).toNat), true)) else (none))
end
def spec_l1Names.f (k : Nat) (a0 : ByteArray) : Option (List ByteArray × Bool) := if a0.toList = ([47] : List UInt8) then (some ((([] : List ByteArray)), true)) else ((spec_l1Cut.f k a0 47).bind fun t104 => (if (t104.length : Int) < 2 then (spec_l1Names.j0 k t104 true) else (if 0 < (t104.length : Int) then (spec_l1Names.j0 k t104 ((rdOf ByteArray.empty t104 0).toList != ([] : List UInt8))) else (none))))
theorem spec_l1Names.mono_l : ∀ k, (∀ y0 y1, LeO (spec_l1Names.j0 k y0 y1) (spec_l1Names.j0 (k + 1) y0 y1)) ∧ (∀ y0 y1, LeO (spec_l1Names.l0 k y0 y1) (spec_l1Names.l0 (k + 1) y0 y1))
 | 0 => ⟨fun _ _ r h => by simp [spec_l1Names.j0] at h, fun _ _ r h => by simp [spec_l1Names.l0] at h⟩
 | k + 1 => by
  obtain ⟨ih0, ih1⟩ := spec_l1Names.mono_l k
  refine ⟨?_, ?_⟩
  ·
   intro y0 y1
   unfold spec_l1Names.j0
   with_reducible repeat' first | exact ih0 _ _ | exact ih1 _ _ | exact spec_l1Cut.mono _ _ _ | exact spec_l1Name.mono _ _ | exact LeO.refl _ | exact LeO.none _ | refine LeO.ite ?_ ?_ | refine LeO.bind ?_ (fun _ => ?_)
  ·
   intro y0 y1
   unfold spec_l1Names.l0
   with_reducible repeat' first | exact ih0 _ _ | exact ih1 _ _ | exact spec_l1Cut.mono _ _ _ | exact spec_l1Name.mono _ _ | exact LeO.refl _ | exact LeO.none _ | refine LeO.ite ?_ ?_ | refine LeO.bind ?_ (fun _ => ?_)
theorem spec_l1Names.mono : ∀ a0 k, LeO (spec_l1Names.f k a0) (spec_l1Names.f (k + 1) a0) := by
 intro a0 k
 obtain ⟨ih0, ih1⟩ := spec_l1Names.mono_l k
 unfold spec_l1Names.f
 with_reducible repeat' first | exact ih0 _ _ | exact ih1 _ _ | exact spec_l1Cut.mono _ _ _ | exact spec_l1Name.mono _ _ | exact LeO.refl _ | exact LeO.none _ | refine LeO.ite ?_ ?_ | refine LeO.bind ?_ (fun _ => ?_)
theorem spec_l1Names.calls (k : Nat) (a0 : ByteArray) (r1 : List ByteArray) (r2 : Bool) (w : World) (h : spec_l1Names.f k a0 = some (r1, r2)) :
  Calls Tryd.prog 44 #[.string a0] w fun e w' => ∃ v0_ : Value, e = .returned (.tuple #[v0_, .bool r2]) ∧ Kd.Q Kd.string 9 w' w.heap.size (fun _ => True) v0_ r1 ∧ Below w.heap.size w w' := by
 have HB := aa (Below.refl w.heap.size w)
 have H : (if a0.toList = ([47] : List UInt8) then (some ((([] : List ByteArray)), true)) else ((spec_l1Cut.f k a0 47).bind fun t104 => (if (t104.length : Int) < 2 then (spec_l1Names.j0 k t104 true) else (if 0 < (t104.length : Int) then (spec_l1Names.j0 k t104 ((rdOf ByteArray.empty t104 0).toList != ([] : List UInt8))) else (none))))) = some (r1, r2) := h
 clear h
 revert H
 refine itE_ (fun c2b0 c2b1 H => ?_) fun c2b0 c2b1 H => ?_
 ·
  obtain ⟨y101, hy101⟩ : ∃ y_ : List ByteArray, y_ = (([] : List ByteArray)) := ⟨_, rfl⟩
  replace H : (some (y101, true)) = some (r1, r2) := by cases hy101; exact H
  have Ny101 := aa hy101
  clear hy101
  simp only [Option.some.injEq, Prod.mk.injEq] at H
  obtain ⟨rfl, rfl⟩ := H
  go_enter Tryd.func44, Tryd.ntmps44
  go_wp2_with (first | ((with_reducible refine gate_dst (N := 8) rfl ?_); refine Kd.R_lit Kd.string _ 9 ?hg (N := 8) ?hd (xs := ([] : List ByteArray)) (inner := []) (ok := fun _ => True) (okp := fun _ => True) ?hr ?hp (fun _ hk => hk) trivial (Below.refl _ _) (Nat.le_refl _) (by simp) ?_; (case hd => rfl); (case hg => rfl); (case hr => exact zhlgcp); (case hp => exact (Reps.none _ _)); intro v102 w3 ho4 hb hg_ hnew_; clear hg_ hnew_; (first | rw [← Ny101.out] at ho4 | (simp only [Int.reduceToNat] at ho4; rw [← Ny101.out] at ho4)); have HO103 := aa (Kd.R_lower ho4 (below_size zjjbob)); replace HB := aa (below_step zjjbob hb); clear hb ho4))
  go_ret2
  exact ⟨_, zlhpib, Kd.Q_of_R (zcaken HO103.out), zjjbob⟩
 revert H
 refine obs_ fun t104 A5 H => ?_
 have HC6 := aa H
 clear H
 go_enter Tryd.func44, Tryd.ntmps44
 go_upto_region 4 with (first | (refine gc_ Tryd.func43 (some 10) #[.string a0, .int .u8 47] ?_; (with_reducible refine (spec_l1Cut.calls k a0 47 t104 _ A5.out).mono ?_); rintro e w7 ⟨v105, rfl, ho0, hb⟩; refine ⟨_, rfl, ?_⟩; have HO106 := aa (Kd.R_lower ho0 (below_size zjjbob)); replace HB := aa (below_step zjjbob hb); (try clear hb hk hi ho0)))
 (try simp only [Act.put, List.setIfInBounds_toArray, List.set_cons_zero, List.set_cons_succ])
 go_cut [19] (fun v19 wc => ∃ (kq : Nat) (x19_5 : Bool), v19 = .bool x19_5 ∧ Aside0 (spec_l1Names.j0 kq t104 x19_5 = some (r1, r2)) ∧ Aside0 (kq ≤ k) ∧ Aside0 (Kd.R Kd.string 9 wc w.heap.size (fun _ => True) v105 t104) ∧ Aside0 (Below w.heap.size w wc))
 case first =>
  have H := HC6.out
  clear HC6
  revert H
  refine itC_ (fun c8 H => ?_) fun c8 H => ?_
  ·
   have c8b0 := decide_eq_true c8
   have c8b1 : decide (t104.length < 2) = true := decide_eq_true (by omega)
   clear c8
   (first | rw [c8b0] | (simp only [i64_w, i32_w]; rw [c8b0]) | (simp only [c8b2, Bool.not_false, Bool.not_true]) | skip)
   have H' := aa H
   clear H
   obtain ⟨Ao9, co9, eo9⟩ := Kd.R_slice HO106.out
   subst eo9
   go_wp2
   go_meet
   case rel => exact ⟨_, (true), zagbkp, H', ⟨zpacfg⟩, ⟨zcaken HO106.out⟩, ⟨zjjbob⟩⟩
  have c8b0 := decide_eq_false c8
  have c8b1 : decide (t104.length < 2) = false := decide_eq_false (by omega)
  clear c8
  (first | rw [c8b0] | (simp only [i64_w, i32_w]; rw [c8b0]) | (simp only [c8b2, Bool.not_false, Bool.not_true]) | skip)
  revert H
  refine itG_ fun c10 H => ?_
  have c10b0 := decide_eq_true c10
  have c10b1 : decide (0 < t104.length) = true := decide_eq_true (by omega)
  clear c10
  have H' := aa H
  clear H
  obtain ⟨Ao11, co11, eo11⟩ := Kd.R_slice HO106.out
  subst eo11
  have p107 : 0 ≤ (0 : Int) := (by omega)
  have q107 : 0 < (t104.length : Int) := of_decide_eq_true zgglam
  obtain ⟨ad107, e107, hx107_0⟩ := Kd.at_string (Kd.R_reads' HO106.out).2.2 0 p107 q107
  cases e107
  have qi107 : (0 < t104.length) = True := eq_true (by omega)
  (try rw [show ((0 : Int)).toNat = 0 from rfl] at hx107_0)
  (try rw [Addr.add_zero'] at hx107_0)
  replace p107 := eq_true p107
  replace q107 := eq_true q107
  go_wp2
  go_meet
  case rel => exact ⟨_, (((rdOf ByteArray.empty t104 0).toList != ([] : List UInt8))), zheoaa, H', ⟨zpacfg⟩, ⟨zcaken HO106.out⟩, ⟨zjjbob⟩⟩
 case rest =>
  clear HC6
  try clear p1
  try clear q1
  try clear hx1
  try clear qi1
  try clear c2b0
  try clear c2b1
  try clear p2
  try clear c8
  try clear c8b0
  try clear c8b1
  try clear c8b2
  try clear c10
  try clear c10b0
  try clear c10b1
  try clear p10
  try clear q10
  try clear hx10
  try clear qi10
  try clear hx107_0
  try clear p107
  try clear q107
  obtain ⟨kq, x19_5, rfl, HA, HJ5, HO_4, HB⟩ := hcut
  cases kq with
  | zero => exact absurd HA.out (by simp [spec_l1Names.j0])
  | succ kj5 =>
   have H := HA.out
   clear HA
   simp only [spec_l1Names.j0] at H
   by_cases c12 : x19_5 = true
   ·
    subst c12
    rw [if_pos rfl] at H
    simp only [Option.some.injEq, Prod.mk.injEq] at H
    obtain ⟨rfl, rfl⟩ := H
    go_wp2
    go_ret2
    exact ⟨_, zlhpib, Kd.Q_of_R zhijhk, zjjbob⟩
   ·
    replace c12 := Bool.eq_false_iff.mpr c12
    subst c12
    rw [if_neg fT_] at H
    have H' := aa H
    clear H
    go_wp2
    go_loopg [5] kj5 (fun kq v5 w' => ∃ (x5_2 : Int), v5 = .int .i64 x5_2 ∧ Aside0 (spec_l1Names.l0 kq t104 x5_2 = some (r1, r2)) ∧ Aside0 (kq ≤ kj5) ∧ Aside0 (Kd.R Kd.string 9 w' w.heap.size (fun _ => True) v105 t104) ∧ Aside0 (Below w.heap.size w w'))
    case atStart => exact ⟨(1), zagbkp, H', ⟨Nat.le_refl _⟩, ⟨zcaken HO_4.out⟩, ⟨zjjbob⟩⟩
    case round =>
     clear H'
     try clear p1
     try clear q1
     try clear hx1
     try clear qi1
     try clear c2b0
     try clear c2b1
     try clear p2
     try clear c8
     try clear c8b0
     try clear c8b1
     try clear c8b2
     try clear c10
     try clear c10b0
     try clear c10b1
     try clear p10
     try clear q10
     try clear hx10
     try clear qi10
     try clear c12
     try clear hx107_0
     try clear p1
     try clear p10
     try clear p107
     try clear p2
     try clear q1
     try clear q10
     try clear q107
     obtain ⟨x5_2, rfl, HA, HK2, HO_4, HB⟩ := hrel
     cases gk with
     | zero => exact absurd HA.out (by simp [spec_l1Names.l0])
     | succ k2 =>
      have H := HA.out
      clear HA
      simp only [spec_l1Names.l0] at H
      revert H
      refine itD_ (fun c13b0 H => ?_) fun c13b0 H => ?_
      ·
       revert H
       refine itH_ fun c14b0 H => ?_
       revert H
       refine obs_ fun t109 A15 H => ?_
       by_cases c16 : t109 = true
       ·
        subst c16
        rw [if_pos rfl] at H
        have H' := aa H
        clear H
        obtain ⟨Ao17, co17, eo17⟩ := Kd.R_slice HO_4.out
        subst eo17
        have p108 : 0 ≤ (x5_2 : Int) := of_decide_eq_true zgglam
        have q108 : x5_2 < (t104.length : Int) := of_decide_eq_true zgglam
        obtain ⟨ad108, e108, hx108_0⟩ := Kd.at_string (Kd.R_reads' HO_4.out).2.2 x5_2 p108 q108
        cases e108
        replace p108 := eq_true p108
        replace q108 := eq_true q108
        go_wp2_with (first | (refine gc_ Tryd.func49 (some 30) #[.string (rdOf ByteArray.empty t104 x5_2)] ?_; (with_reducible refine (spec_l1Name.calls k2 (rdOf ByteArray.empty t104 x5_2) true _ A15.out).mono ?_); rintro e w' ⟨rfl, ⟨nd, rfl⟩⟩; refine ⟨_, rfl, ?_⟩))
        go_roundg k2
        case measure => have := HJ5.out; have := HK2.out; omega
        case rel => exact ⟨(wrap64 (x5_2 + 1)), zagbkp, H', ⟨by have := HJ5.out; have := HK2.out; omega⟩, ⟨zcaken HO_4.out⟩, ⟨zjjbob⟩⟩
       replace c16 := Bool.eq_false_iff.mpr c16
       subst c16
       rw [if_neg fT_] at H
       simp only [Option.some.injEq, Prod.mk.injEq] at H
       obtain ⟨rfl, rfl⟩ := H
       obtain ⟨Ao18, co18, eo18⟩ := Kd.R_slice HO_4.out
       subst eo18
       have p108 : 0 ≤ (x5_2 : Int) := of_decide_eq_true zgglam
       have q108 : x5_2 < (t104.length : Int) := of_decide_eq_true zgglam
       obtain ⟨ad108, e108, hx108_0⟩ := Kd.at_string (Kd.R_reads' HO_4.out).2.2 x5_2 p108 q108
       cases e108
       replace p108 := eq_true p108
       replace q108 := eq_true q108
       go_wp2_with (first | (refine gc_ Tryd.func49 (some 30) #[.string (rdOf ByteArray.empty t104 x5_2)] ?_; (with_reducible refine (spec_l1Name.calls k2 (rdOf ByteArray.empty t104 x5_2) false _ A15.out).mono ?_); rintro e w' ⟨rfl, ⟨nd, rfl⟩⟩; refine ⟨_, rfl, ?_⟩))
       go_ret2
       exact ⟨_, zlhpib, Kd.Q_of_R zhijhk, zjjbob⟩
      ·
       revert H
       refine itG_ fun c19 H => ?_
       have c19b0 := eq_true c19
       have c19b1 := decide_eq_true c19
       clear c19
       obtain ⟨y110, hy110⟩ : ∃ y_ : List ByteArray, y_ = (t104.drop (1 : Int).toNat) := ⟨_, rfl⟩
       replace H : (some (y110, true)) = some (r1, r2) := by cases hy110; exact H
       have Ny110 := aa hy110
       clear hy110
       simp only [Option.some.injEq, Prod.mk.injEq] at H
       obtain ⟨rfl, rfl⟩ := H
       obtain ⟨Ao20, co20, eo20⟩ := Kd.R_slice HO_4.out
       subst eo20
       have q21 : (1 : Int) ≤ ((t104.length : Int) : Int) := of_decide_eq_true zgglam
       obtain ⟨i021, hi021, _, hsz21, _⟩ := info_parts info9
       have hcut21 := cut_from (P := Tryd.prog) 57 9 .i64 Tryd.underlying57 hi021 1 hsz21 Ao20 t104.length co20 1 (by omega) q21
       have hr21 := Kd.Q_drop (k := (1 : Int).toNat) (Kd.Q_of_R HO_4.out) (by omega)
       obtain ⟨A21, hA21⟩ : ∃ A1, A1 = (if co20 = (1 : Int).toNat then Ao20 else (Ao20 : Option Addr).map (·.add ((1 : Int).toNat * 1))) := ⟨_, rfl⟩
       obtain ⟨c21, hc21⟩ : ∃ c1, c1 = co20 - (1 : Int).toNat := ⟨_, rfl⟩
       have hy21 : y110.length = t104.length - (1 : Int).toNat := (by rw [Ny110.out, List.length_drop])
       rw [← Ny110.out] at hr21
       rw [← hy21, ← hA21, ← hc21] at hcut21
       replace hr21 : Kd.Q Kd.string 9 wr w.heap.size (fun _ => True) (.slice A21 y110.length c21) y110 := (by rw [hA21, hc21, hy21]; exact hr21)
       have HE21 : Aside0 ((Value.slice A21 y110.length c21).ownBlock = (.slice Ao20 t104.length co20 : Value).ownBlock) := ⟨by rw [hA21]; split <;> (cases (Ao20 : Option Addr) <;> rfl)⟩
       clear hy21 hi021 hsz21 HO_4 hA21 hc21
       have HO112 := aa hr21
       clear hr21
       replace q21 := eq_true q21
       go_wp2
       go_ret2
       exact ⟨_, zlhpib, by (with_reducible repeat (first | apply Kd.Q_alloc | apply Kd.Q_drewN | apply Kd.Q_drew)); exact HO112.out, zjjbob⟩
end Go.Proofs.YtbeghfdlbokhkaaDoor.Qc
