/- A part of the proof that for every input the law FnSets returns true: no condition. Functions of the translation, each proved to do what a plain Lean function tells, and what these tell. -/
import Derived.Test.YtegggpipggniaaaDoorQax0
import Derived.Test.YtegggpipggniaaaDoorQax23
import Derived.Test.YtegggpipggniaaaDoorQax24
namespace Go.Proofs.YtegggpipggniaaaDoor.Qa
open Go.RowKit Go.Proofs.YtegggpipggniaaaDoorW.PrintWords Go.Proofs.YtegggpipggniaaaDoorW.PrintLast Go.Proofs.YtegggpipggniaaaDoorW.PrintMore
attribute [local go_sem] max2_int min2_int max_two min_two max_three min_three max_four min_four
set_option linter.unusedVariables false
set_option linter.unusedSimpArgs false
set_option maxHeartbeats 8000000
set_option maxRecDepth 100000
def spec_l1Join.f (a0 : ByteArray) (a1 : ByteArray) : Option (ByteArray) := if a0.toList = ([47] : List UInt8) then (if 1 + a1.size ≤ 9223372036854775807 then (some ((⟨#[47]⟩ : ByteArray) ++ a1)) else (none)) else (if a0.size + 1 ≤ 9223372036854775807 then (if (a0 ++ (⟨#[47]⟩ : ByteArray)).size + a1.size ≤ 9223372036854775807 then (some ((a0 ++ (⟨#[47]⟩ : ByteArray)) ++ a1)) else (none)) else (none))
theorem spec_l1Join.calls (a0 : ByteArray) (a1 : ByteArray) (r : ByteArray) (w : World) (h : spec_l1Join.f a0 a1 = some r) :
  Calls Tryd.prog 51 #[.string a0, .string a1] w fun e w' => e = .returned (.string r) ∧ Drawn0 w w' := by
 have H : (if a0.toList = ([47] : List UInt8) then (if 1 + a1.size ≤ 9223372036854775807 then (some ((⟨#[47]⟩ : ByteArray) ++ a1)) else (none)) else (if a0.size + 1 ≤ 9223372036854775807 then (if (a0 ++ (⟨#[47]⟩ : ByteArray)).size + a1.size ≤ 9223372036854775807 then (some ((a0 ++ (⟨#[47]⟩ : ByteArray)) ++ a1)) else (none)) else (none))) = some r := h
 clear h
 revert H
 refine itE_ (fun c3b0 c3b1 H => ?_) fun c3b0 c3b1 H => ?_
 ·
  revert H
  refine itG_ fun c4 H => ?_
  have c4b0 := eq_true c4
  have c4b1 := decide_eq_true c4
  try have c4b2 : (9223372036854775807 < 1 + a1.size) = False := eq_false (Nat.not_lt.2 c4)
  try (have c4b3 := c4b2; simp only [ByteArray.size_append] at c4b3)
  obtain rfl := Option.some.inj H
  go_enter Tryd.func51, Tryd.ntmps51
  go_wp2
  go_ret
  exact ⟨zagbkp, ziajdh⟩
 revert H
 refine itG_ fun c5 H => ?_
 have c5b0 := eq_true c5
 have c5b1 := decide_eq_true c5
 try have c5b2 : (9223372036854775807 < a0.size + 1) = False := eq_false (Nat.not_lt.2 c5)
 try (have c5b3 := c5b2; simp only [ByteArray.size_append] at c5b3)
 revert H
 refine itG_ fun c6 H => ?_
 have c6b0 := eq_true c6
 have c6b1 := decide_eq_true c6
 try have c6b2 : (9223372036854775807 < (a0 ++ (⟨#[47]⟩ : ByteArray)).size + a1.size) = False := eq_false (Nat.not_lt.2 c6)
 try (have c6b3 := c6b2; simp only [ByteArray.size_append] at c6b3)
 obtain rfl := Option.some.inj H
 go_enter Tryd.func51, Tryd.ntmps51
 go_wp2
 go_ret
 exact ⟨zagbkp, ziajdh⟩
def spec_l1Draw.l0 : Nat → ByteArray → Int → List Int → Int → Option (ByteArray × Int)
 | 0, _, _, _, _ => none
 | k + 1, x3, x4, x1000, x1001 => if x4 > 0 then ((some (([(⟨#[97]⟩ : ByteArray), (⟨#[98]⟩ : ByteArray), (⟨#[99]⟩ : ByteArray)] : List ByteArray) : List ByteArray)).bind fun y103 => ((spec_l1Next.f x1000 x1001 3).bind fun bt106 => (if 0 ≤ bt106.1 then (if bt106.1 < (y103.length : Int) then ((spec_l1Join.f x3 (rdOf ByteArray.empty y103 bt106.1)).bind fun t109 => (spec_l1Draw.l0 k t109 (wrap64 (x4 - 1)) x1000 bt106.2)) else (none)) else (none)))) else (some (x3, x1001))
def spec_l1Draw.f (k : Nat) (s0_0 : List Int) (s0_1 : Int) : Option (ByteArray × Int) := (spec_l1Next.f s0_0 s0_1 4).bind fun bt101 => (spec_l1Draw.l0 k (⟨#[47]⟩ : ByteArray) bt101.1 s0_0 bt101.2)
theorem spec_l1Draw.mono_l : ∀ k, (∀ y0 y1 y2 y3, LeO (spec_l1Draw.l0 k y0 y1 y2 y3) (spec_l1Draw.l0 (k + 1) y0 y1 y2 y3))
 | 0 => fun _ _ _ _ r h => by simp [spec_l1Draw.l0] at h
 | k + 1 => by
  have ih0 := spec_l1Draw.mono_l k
  ·
   intro y0 y1 y2 y3
   unfold spec_l1Draw.l0
   with_reducible repeat' first | exact ih0 _ _ _ _ | exact LeO.refl _ | exact LeO.none _ | refine LeO.ite ?_ ?_ | refine LeO.bind ?_ (fun _ => ?_)
theorem spec_l1Draw.mono : ∀ a0 a1 k, LeO (spec_l1Draw.f k a0 a1) (spec_l1Draw.f (k + 1) a0 a1) := by
 intro a0 a1 k
 have ih0 := spec_l1Draw.mono_l k
 unfold spec_l1Draw.f
 with_reducible repeat' first | exact ih0 _ _ _ _ | exact LeO.refl _ | exact LeO.none _ | refine LeO.ite ?_ ?_ | refine LeO.bind ?_ (fun _ => ?_)
theorem spec_l1Draw.calls (k : Nat) (g : Nat) (s0_0 : List Int) (s0_1 : Int) (r1 : ByteArray) (r2 : Int) (w0 w : World) (hI : IsS80 w0 w g s0_0 s0_1) (hB : Below w0.heap.size w0 w) (h : spec_l1Draw.f k s0_0 s0_1 = some (r1, r2)) :
  Calls Tryd.prog 73 #[.pointer (some ⟨g, 0, none⟩)] w fun e w' => e = .returned (.string r1) ∧ IsS80 w0 w' g s0_0 r2 ∧ Below w0.heap.size w0 w' ∧ KeepBut w w' g none := by
 have HI0 := aa hI
 have HK := aa (KeepBut.refl w g none)
 have HL := aa hB.size
 clear hI
 have HW0 := aa hB.size
 have HB := aa hB
 clear hB
 have H : ((spec_l1Next.f s0_0 s0_1 4).bind fun bt101 => (spec_l1Draw.l0 k (⟨#[47]⟩ : ByteArray) bt101.1 s0_0 bt101.2)) = some (r1, r2) := h
 clear h
 revert H
 refine ob2_ fun t101 t102 A2 H => ?_
 (try dsimp only at H)
 have H' := aa H
 clear H
 go_enter Tryd.func73, Tryd.ntmps73
 go_wp2_with (first | (refine gc_ Tryd.func27 (some 6) #[.pointer (some ⟨g, 0, none⟩), .int .i64 4] ?_; (with_reducible refine (spec_l1Next.calls g s0_0 s0_1 4 t101 t102 w0 _ zhpbib zicchn A2.out).mono ?_); rintro e w3 ⟨rfl, hi, hb, hk⟩; refine ⟨_, rfl, ?_⟩; replace HK := aa (KeepBut.trans zncgdm hk (.inl rfl)); replace HB := aa (hb); replace HI0 := aa (hi); (try clear hb hk hi)))
 go_loopg [3, 4] k (fun kq v3 v4 w' => ∃ (x3_1 : ByteArray) (x4_1 : Int) (x1001_1 : Int), v3 = .string x3_1 ∧ v4 = .int .i64 x4_1 ∧ Aside0 (spec_l1Draw.l0 kq x3_1 x4_1 s0_0 x1001_1 = some (r1, r2)) ∧ Aside0 (kq ≤ k) ∧ Aside0 (IsS80 w0 w' g s0_0 x1001_1) ∧ Aside0 (KeepBut w w' g none) ∧ Aside0 (Below w0.heap.size w0 w'))
 case atStart => exact ⟨((⟨#[47]⟩ : ByteArray)), (t101), (t102), zagbkp, zagbkp, H', ⟨Nat.le_refl _⟩, ⟨zhpbib⟩, ⟨zncgdm⟩, ⟨zicchn⟩⟩
 case round =>
  clear H'
  try clear p2
  obtain ⟨x3_1, x4_1, x1001_1, rfl, rfl, HA, HK1, HI0, HK, HB⟩ := hrel
  cases gk with
  | zero => exact absurd HA.out (by simp [spec_l1Draw.l0])
  | succ k1 =>
   have H := HA.out
   clear HA
   simp only [spec_l1Draw.l0] at H
   revert H
   refine itC_ (fun c4 H => ?_) fun c4 H => ?_
   ·
    have c4b0 : decide (0 < x4_1) = true := decide_eq_true c4
    clear c4
    revert H
    refine obl_ fun y103 Ny103 H => ?_
    revert H
    refine ob2_ fun t106 t107 A5 H => ?_
    (try dsimp only at H)
    revert H
    refine itH_ fun c6b0 H => ?_
    revert H
    refine itH_ fun c7b0 H => ?_
    revert H
    refine obs_ fun t109 A8 H => ?_
    have H' := aa H
    clear H
    go_wp2_with (first | ((with_reducible refine gate_dst (N := 12) rfl ?_); refine Kd.R_lit Kd.string _ 9 ?hg (N := 12) ?hd (xs := ([(⟨#[97]⟩ : ByteArray), (⟨#[98]⟩ : ByteArray), (⟨#[99]⟩ : ByteArray)] : List ByteArray)) (inner := [.string (⟨#[97]⟩ : ByteArray), .string (⟨#[98]⟩ : ByteArray), .string (⟨#[99]⟩ : ByteArray)]) (ok := fun _ => True) (okp := fun _ => True) ?hr ?hp (fun _ hk => hk) trivial (Below.refl _ _) (Nat.le_refl _) (by simp) ?_; (case hd => rfl); (case hg => rfl); (case hr => exact zhlgcp); (case hp => exact (Reps.one (show Kd.M Kd.string _ _ _ (⟨#[97]⟩ : ByteArray) [.string (⟨#[97]⟩ : ByteArray)] from rfl) (Reps.one (show Kd.M Kd.string _ _ _ (⟨#[98]⟩ : ByteArray) [.string (⟨#[98]⟩ : ByteArray)] from rfl) (Reps.one (show Kd.M Kd.string _ _ _ (⟨#[99]⟩ : ByteArray) [.string (⟨#[99]⟩ : ByteArray)] from rfl) (Reps.none _ _))))); intro v104 w9 ho10 hb hg_ hnew_; clear hg_ hnew_; (first | rw [← Ny103.out] at ho10 | (simp only [Int.reduceToNat] at ho10; rw [← Ny103.out] at ho10)); have n0_ := aa (Kd.R_lower ho10 (keep_size (w := w) (g := g) (row := none) zncgdm)); have n1_ := aa (IsS80.below zhpbib hb); have n2_ := aa (KeepBut.trans zncgdm (KeepBut.of_below hb g none) (.inl rfl)); have n3_ := aa (below_step zicchn hb); clear HI0; clear HK; clear HB; have HO105 := n0_; have HI0 := n1_; have HK := n2_; have HB := n3_; clear n0_ n1_ n2_ n3_; clear hb ho10) | (refine gc_ Tryd.func27 (some 14) #[.pointer (some ⟨g, 0, none⟩), .int .i64 3] ?_; (with_reducible refine (spec_l1Next.calls g s0_0 x1001_1 3 t106 t107 w0 _ zhpbib zicchn A5.out).mono ?_); rintro e w11 ⟨rfl, hi, hb, hk⟩; refine ⟨_, rfl, ?_⟩; replace HO105 := aa (Kd.R_mono (Kd.R_keep (IsS80.apart (zhpbib : IsS80 w0 _ g s0_0 x1001_1) (zcaken HO105.out) (by decide)) hk (fun _ h => h.2)) (fun _ h => h.1)); replace HK := aa (KeepBut.trans zncgdm hk (.inl rfl)); replace HB := aa (hb); replace HI0 := aa (hi); (try clear hb hk hi); obtain ⟨Ao12, co12, eo12⟩ := Kd.R_slice HO105.out; subst eo12; have p108 : 0 ≤ (t106 : Int) := of_decide_eq_true zgglam; have q108 : t106 < (y103.length : Int) := of_decide_eq_true zgglam; obtain ⟨ad108, e108, hx108_0⟩ := Kd.at_string (Kd.R_reads' HO105.out).2.2 t106 p108 q108; cases e108; replace p108 := eq_true p108; replace q108 := eq_true q108) | (refine gc_ Tryd.func51 (some 17) #[.string x3_1, .string (rdOf ByteArray.empty y103 t106)] ?_; (with_reducible refine (spec_l1Join.calls x3_1 (rdOf ByteArray.empty y103 t106) t109 _ A8.out).mono ?_); rintro e w' ⟨rfl, ⟨nd, rfl⟩⟩; refine ⟨_, rfl, ?_⟩))
    go_roundg k1
    case measure => have := HK1.out; omega
    case rel => exact ⟨(t109), (wrap64 (x4_1 - 1)), (t107), zagbkp, zagbkp, H', ⟨by have := HK1.out; omega⟩, ⟨zhpbib⟩, ⟨zncgdm⟩, ⟨zicchn⟩⟩
   ·
    have c4b0 : decide (0 < x4_1) = false := decide_eq_false c4
    clear c4
    simp only [Option.some.injEq, Prod.mk.injEq] at H
    obtain ⟨rfl, rfl⟩ := H
    go_wp2
    go_ret
    exact ⟨zlhpib, zhpbib, zicchn, zncgdm⟩
def spec_l1Bent.f (k : Nat) (s0_0 : List Int) (s0_1 : Int) : Option (ByteArray × Int) := (spec_l1Draw.f k s0_0 s0_1).bind fun bt101 => ((spec_l1Next.f s0_0 bt101.2 10).bind fun bt103 => (if bt103.1 = 0 then (if bt101.1.size + 1 ≤ 9223372036854775807 then (some (bt101.1 ++ (⟨#[47]⟩ : ByteArray), bt103.2)) else (none)) else (if bt103.1 = 1 then ((some (([(⟨#[]⟩ : ByteArray), (⟨#[97]⟩ : ByteArray), (⟨#[47, 47]⟩ : ByteArray), (⟨#[47, 65]⟩ : ByteArray), (⟨#[47, 97, 47, 98, 47, 99, 47, 100, 47, 101]⟩ : ByteArray), (⟨#[47, 97, 98, 99, 100, 101, 102, 103, 104, 105]⟩ : ByteArray), (⟨#[47, 97, 97, 97, 97, 97, 97, 97, 97, 47, 97, 97, 97, 97, 97, 97, 97, 97, 47, 97, 97, 97, 97, 97, 97]⟩ : ByteArray)] : List ByteArray) : List ByteArray)).bind fun y105 => ((spec_l1Next.f s0_0 bt103.2 7).bind fun bt108 => (if 0 ≤ bt108.1 then (if bt108.1 < (y105.length : Int) then (some (rdOf ByteArray.empty y105 bt108.1, bt108.2)) else (none)) else (none)))) else (some (bt101.1, bt103.2)))))
theorem spec_l1Bent.mono : ∀ a0 a1 k, LeO (spec_l1Bent.f k a0 a1) (spec_l1Bent.f (k + 1) a0 a1) := by
 intro a0 a1 k
 unfold spec_l1Bent.f
 with_reducible repeat' first | exact spec_l1Draw.mono _ _ _ | exact LeO.refl _ | exact LeO.none _ | refine LeO.ite ?_ ?_ | refine LeO.bind ?_ (fun _ => ?_)
theorem spec_l1Bent.calls (k : Nat) (g : Nat) (s0_0 : List Int) (s0_1 : Int) (r1 : ByteArray) (r2 : Int) (w0 w : World) (hI : IsS80 w0 w g s0_0 s0_1) (hB : Below w0.heap.size w0 w) (h : spec_l1Bent.f k s0_0 s0_1 = some (r1, r2)) :
  Calls Tryd.prog 49 #[.pointer (some ⟨g, 0, none⟩)] w fun e w' => e = .returned (.string r1) ∧ IsS80 w0 w' g s0_0 r2 ∧ Below w0.heap.size w0 w' ∧ KeepBut w w' g none := by
 have HI0 := aa hI
 have HK := aa (KeepBut.refl w g none)
 have HL := aa hB.size
 clear hI
 have HW0 := aa hB.size
 have HB := aa hB
 clear hB
 have H : ((spec_l1Draw.f k s0_0 s0_1).bind fun bt101 => ((spec_l1Next.f s0_0 bt101.2 10).bind fun bt103 => (if bt103.1 = 0 then (if bt101.1.size + 1 ≤ 9223372036854775807 then (some (bt101.1 ++ (⟨#[47]⟩ : ByteArray), bt103.2)) else (none)) else (if bt103.1 = 1 then ((some (([(⟨#[]⟩ : ByteArray), (⟨#[97]⟩ : ByteArray), (⟨#[47, 47]⟩ : ByteArray), (⟨#[47, 65]⟩ : ByteArray), (⟨#[47, 97, 47, 98, 47, 99, 47, 100, 47, 101]⟩ : ByteArray), (⟨#[47, 97, 98, 99, 100, 101, 102, 103, 104, 105]⟩ : ByteArray), (⟨#[47, 97, 97, 97, 97, 97, 97, 97, 97, 47, 97, 97, 97, 97, 97, 97, 97, 97, 47, 97, 97, 97, 97, 97, 97]⟩ : ByteArray)] : List ByteArray) : List ByteArray)).bind fun y105 => ((spec_l1Next.f s0_0 bt103.2 7).bind fun bt108 => (if 0 ≤ bt108.1 then (if bt108.1 < (y105.length : Int) then (some (rdOf ByteArray.empty y105 bt108.1, bt108.2)) else (none)) else (none)))) else (some (bt101.1, bt103.2)))))) = some (r1, r2) := h
 clear h
 revert H
 refine ob2_ fun t101 t102 A2 H => ?_
 (try dsimp only at H)
 revert H
 refine ob2_ fun t103 t104 A3 H => ?_
 (try dsimp only at H)
 revert H
 refine itE_ (fun c4b0 c4b1 H => ?_) fun c4b0 c4b1 H => ?_
 ·
  revert H
  refine itG_ fun c5 H => ?_
  have c5b0 := eq_true c5
  have c5b1 := decide_eq_true c5
  try have c5b2 : (9223372036854775807 < t101.size + 1) = False := eq_false (Nat.not_lt.2 c5)
  try (have c5b3 := c5b2; simp only [ByteArray.size_append] at c5b3)
  simp only [Option.some.injEq, Prod.mk.injEq] at H
  obtain ⟨rfl, rfl⟩ := H
  go_enter Tryd.func49, Tryd.ntmps49
  go_wp2_with (first | (refine gc_ Tryd.func73 (some 5) #[.pointer (some ⟨g, 0, none⟩)] ?_; (with_reducible refine (spec_l1Draw.calls k g s0_0 s0_1 t101 t102 w0 _ zhpbib zicchn A2.out).mono ?_); rintro e w6 ⟨rfl, hi, hb, hk⟩; refine ⟨_, rfl, ?_⟩; replace HK := aa (KeepBut.trans zncgdm hk (.inl rfl)); replace HB := aa (hb); replace HI0 := aa (hi); (try clear hb hk hi)) | (refine gc_ Tryd.func27 (some 7) #[.pointer (some ⟨g, 0, none⟩), .int .i64 10] ?_; (with_reducible refine (spec_l1Next.calls g s0_0 t102 10 t103 t104 w0 _ zhpbib zicchn A3.out).mono ?_); rintro e w7 ⟨rfl, hi, hb, hk⟩; refine ⟨_, rfl, ?_⟩; replace HK := aa (KeepBut.trans zncgdm hk (.inl rfl)); replace HB := aa (hb); replace HI0 := aa (hi); (try clear hb hk hi)))
  go_ret
  exact ⟨zlhpib, zhpbib, zicchn, zncgdm⟩
 revert H
 refine itE_ (fun c8b0 c8b1 H => ?_) fun c8b0 c8b1 H => ?_
 ·
  revert H
  refine obl_ fun y105 Ny105 H => ?_
  revert H
  refine ob2_ fun t108 t109 A9 H => ?_
  (try dsimp only at H)
  revert H
  refine itH_ fun c10b0 H => ?_
  revert H
  refine itH_ fun c11b0 H => ?_
  simp only [Option.some.injEq, Prod.mk.injEq] at H
  obtain ⟨rfl, rfl⟩ := H
  go_enter Tryd.func49, Tryd.ntmps49
  go_wp2_with (first | (refine gc_ Tryd.func73 (some 5) #[.pointer (some ⟨g, 0, none⟩)] ?_; (with_reducible refine (spec_l1Draw.calls k g s0_0 s0_1 t101 t102 w0 _ zhpbib zicchn A2.out).mono ?_); rintro e w12 ⟨rfl, hi, hb, hk⟩; refine ⟨_, rfl, ?_⟩; replace HK := aa (KeepBut.trans zncgdm hk (.inl rfl)); replace HB := aa (hb); replace HI0 := aa (hi); (try clear hb hk hi)) | (refine gc_ Tryd.func27 (some 7) #[.pointer (some ⟨g, 0, none⟩), .int .i64 10] ?_; (with_reducible refine (spec_l1Next.calls g s0_0 t102 10 t103 t104 w0 _ zhpbib zicchn A3.out).mono ?_); rintro e w13 ⟨rfl, hi, hb, hk⟩; refine ⟨_, rfl, ?_⟩; replace HK := aa (KeepBut.trans zncgdm hk (.inl rfl)); replace HB := aa (hb); replace HI0 := aa (hi); (try clear hb hk hi)) | ((with_reducible refine gate_dst (N := 14) rfl ?_); refine Kd.R_lit Kd.string _ 9 ?hg (N := 14) ?hd (xs := ([(⟨#[]⟩ : ByteArray), (⟨#[97]⟩ : ByteArray), (⟨#[47, 47]⟩ : ByteArray), (⟨#[47, 65]⟩ : ByteArray), (⟨#[47, 97, 47, 98, 47, 99, 47, 100, 47, 101]⟩ : ByteArray), (⟨#[47, 97, 98, 99, 100, 101, 102, 103, 104, 105]⟩ : ByteArray), (⟨#[47, 97, 97, 97, 97, 97, 97, 97, 97, 47, 97, 97, 97, 97, 97, 97, 97, 97, 47, 97, 97, 97, 97, 97, 97]⟩ : ByteArray)] : List ByteArray)) (inner := [.string (⟨#[]⟩ : ByteArray), .string (⟨#[97]⟩ : ByteArray), .string (⟨#[47, 47]⟩ : ByteArray), .string (⟨#[47, 65]⟩ : ByteArray), .string (⟨#[47, 97, 47, 98, 47, 99, 47, 100, 47, 101]⟩ : ByteArray), .string (⟨#[47, 97, 98, 99, 100, 101, 102, 103, 104, 105]⟩ : ByteArray), .string (⟨#[47, 97, 97, 97, 97, 97, 97, 97, 97, 47, 97, 97, 97, 97, 97, 97, 97, 97, 47, 97, 97, 97, 97, 97, 97]⟩ : ByteArray)]) (ok := fun _ => True) (okp := fun _ => True) ?hr ?hp (fun _ hk => hk) trivial (Below.refl _ _) (Nat.le_refl _) (by simp) ?_; (case hd => rfl); (case hg => rfl); (case hr => exact zhlgcp); (case hp => exact (Reps.one (show Kd.M Kd.string _ _ _ (⟨#[]⟩ : ByteArray) [.string (⟨#[]⟩ : ByteArray)] from rfl) (Reps.one (show Kd.M Kd.string _ _ _ (⟨#[97]⟩ : ByteArray) [.string (⟨#[97]⟩ : ByteArray)] from rfl) (Reps.one (show Kd.M Kd.string _ _ _ (⟨#[47, 47]⟩ : ByteArray) [.string (⟨#[47, 47]⟩ : ByteArray)] from rfl) (Reps.one (show Kd.M Kd.string _ _ _ (⟨#[47, 65]⟩ : ByteArray) [.string (⟨#[47, 65]⟩ : ByteArray)] from rfl) (Reps.one (show Kd.M Kd.string _ _ _ (⟨#[47, 97, 47, 98, 47, 99, 47, 100, 47, 101]⟩ : ByteArray) [.string (⟨#[47, 97, 47, 98, 47, 99, 47, 100, 47, 101]⟩ : ByteArray)] from rfl) (Reps.one (show Kd.M Kd.string _ _ _ (⟨#[47, 97, 98, 99, 100, 101, 102, 103, 104, 105]⟩ : ByteArray) [.string (⟨#[47, 97, 98, 99, 100, 101, 102, 103, 104, 105]⟩ : ByteArray)] from rfl) (Reps.one (show Kd.M Kd.string _ _ _ (⟨#[47, 97, 97, 97, 97, 97, 97, 97, 97, 47, 97, 97, 97, 97, 97, 97, 97, 97, 47, 97, 97, 97, 97, 97, 97]⟩ : ByteArray) [.string (⟨#[47, 97, 97, 97, 97, 97, 97, 97, 97, 47, 97, 97, 97, 97, 97, 97, 97, 97, 47, 97, 97, 97, 97, 97, 97]⟩ : ByteArray)] from rfl) (Reps.none _ _))))))))); intro v106 w14 ho15 hb hg_ hnew_; clear hg_ hnew_; (first | rw [← Ny105.out] at ho15 | (simp only [Int.reduceToNat] at ho15; rw [← Ny105.out] at ho15)); have n0_ := aa (Kd.R_lower ho15 (keep_size (w := w) (g := g) (row := none) zncgdm)); have n1_ := aa (IsS80.below zhpbib hb); have n2_ := aa (KeepBut.trans zncgdm (KeepBut.of_below hb g none) (.inl rfl)); have n3_ := aa (below_step zicchn hb); clear HI0; clear HK; clear HB; have HO107 := n0_; have HI0 := n1_; have HK := n2_; have HB := n3_; clear n0_ n1_ n2_ n3_; clear hb ho15) | (refine gc_ Tryd.func27 (some 16) #[.pointer (some ⟨g, 0, none⟩), .int .i64 7] ?_; (with_reducible refine (spec_l1Next.calls g s0_0 t104 7 t108 t109 w0 _ zhpbib zicchn A9.out).mono ?_); rintro e w16 ⟨rfl, hi, hb, hk⟩; refine ⟨_, rfl, ?_⟩; replace HO107 := aa (Kd.R_mono (Kd.R_keep (IsS80.apart (zhpbib : IsS80 w0 _ g s0_0 t104) (zcaken HO107.out) (by decide)) hk (fun _ h => h.2)) (fun _ h => h.1)); replace HK := aa (KeepBut.trans zncgdm hk (.inl rfl)); replace HB := aa (hb); replace HI0 := aa (hi); (try clear hb hk hi); obtain ⟨Ao17, co17, eo17⟩ := Kd.R_slice HO107.out; subst eo17; have p110 : 0 ≤ (t108 : Int) := of_decide_eq_true zgglam; have q110 : t108 < (y105.length : Int) := of_decide_eq_true zgglam; obtain ⟨ad110, e110, hx110_0⟩ := Kd.at_string (Kd.R_reads' HO107.out).2.2 t108 p110 q110; cases e110; replace p110 := eq_true p110; replace q110 := eq_true q110))
  go_ret
  exact ⟨zlhpib, zhpbib, zicchn, zncgdm⟩
 simp only [Option.some.injEq, Prod.mk.injEq] at H
 obtain ⟨rfl, rfl⟩ := H
 go_enter Tryd.func49, Tryd.ntmps49
 go_wp2_with (first | (refine gc_ Tryd.func73 (some 5) #[.pointer (some ⟨g, 0, none⟩)] ?_; (with_reducible refine (spec_l1Draw.calls k g s0_0 s0_1 t101 t102 w0 _ zhpbib zicchn A2.out).mono ?_); rintro e w18 ⟨rfl, hi, hb, hk⟩; refine ⟨_, rfl, ?_⟩; replace HK := aa (KeepBut.trans zncgdm hk (.inl rfl)); replace HB := aa (hb); replace HI0 := aa (hi); (try clear hb hk hi)) | (refine gc_ Tryd.func27 (some 7) #[.pointer (some ⟨g, 0, none⟩), .int .i64 10] ?_; (with_reducible refine (spec_l1Next.calls g s0_0 t102 10 t103 t104 w0 _ zhpbib zicchn A3.out).mono ?_); rintro e w19 ⟨rfl, hi, hb, hk⟩; refine ⟨_, rfl, ?_⟩; replace HK := aa (KeepBut.trans zncgdm hk (.inl rfl)); replace HB := aa (hb); replace HI0 := aa (hi); (try clear hb hk hi)))
 go_ret
 exact ⟨zlhpib, zhpbib, zicchn, zncgdm⟩
def spec_l1Chance.f (s0_0 : List Int) (s0_1 : Int) (a1 : Int) : Option (Bool × Int) := (spec_l1Next.f s0_0 s0_1 a1).bind fun bt101 => (some ((bt101.1 == 0), bt101.2))
theorem spec_l1Chance.calls (g : Nat) (s0_0 : List Int) (s0_1 : Int) (a1 : Int) (r1 : Bool) (r2 : Int) (w0 w : World) (hI : IsS80 w0 w g s0_0 s0_1) (hB : Below w0.heap.size w0 w) (h : spec_l1Chance.f s0_0 s0_1 a1 = some (r1, r2)) :
  Calls Tryd.prog 50 #[.pointer (some ⟨g, 0, none⟩), .int .i64 a1] w fun e w' => e = .returned (.bool r1) ∧ IsS80 w0 w' g s0_0 r2 ∧ Below w0.heap.size w0 w' ∧ KeepBut w w' g none := by
 have HI0 := aa hI
 have HK := aa (KeepBut.refl w g none)
 have HL := aa hB.size
 clear hI
 have HW0 := aa hB.size
 have HB := aa hB
 clear hB
 have H : ((spec_l1Next.f s0_0 s0_1 a1).bind fun bt101 => (some ((bt101.1 == 0), bt101.2))) = some (r1, r2) := h
 clear h
 revert H
 refine ob2_ fun t101 t102 A3 H => ?_
 (try dsimp only at H)
 simp only [Option.some.injEq, Prod.mk.injEq] at H
 obtain ⟨rfl, rfl⟩ := H
 go_enter Tryd.func50, Tryd.ntmps50
 go_wp2_with (first | (refine gc_ Tryd.func27 (some 7) #[.pointer (some ⟨g, 0, none⟩), .int .i64 a1] ?_; (with_reducible refine (spec_l1Next.calls g s0_0 s0_1 a1 t101 t102 w0 _ zhpbib zicchn A3.out).mono ?_); rintro e w4 ⟨rfl, hi, hb, hk⟩; refine ⟨_, rfl, ?_⟩; replace HK := aa (KeepBut.trans zncgdm hk (.inl rfl)); replace HB := aa (hb); replace HI0 := aa (hi); (try clear hb hk hi)))
 go_ret
 exact ⟨zlhpib, zhpbib, zicchn, zncgdm⟩
def spec_l2Bad.f (a0 : Int) : Option (Int × ByteArray × (List (S32))) := some (a0, (⟨#[]⟩ : ByteArray), ([] : List (S32)))
theorem spec_l2Bad.calls (a0 : Int) (r1 : Int) (r2 : ByteArray) (r3 : List (S32)) (w : World) (h : spec_l2Bad.f a0 = some (r1, r2, r3)) :
  Calls Tryd.prog 34 #[.int .i64 a0] w fun e w' => ∃ v2_ : Value, e = .returned (.agg #[.int .i64 r1, .string r2, v2_]) ∧ Kd.R k32 32 w' w.heap.size (fun _ => True) v2_ r3 ∧ Below w.heap.size w w' := by
 have hu28 := Tryd.underlying28
 have HB := aa (Below.refl w.heap.size w)
 have H : (some (a0, (⟨#[]⟩ : ByteArray), ([] : List (S32)))) = some (r1, r2, r3) := h
 clear h
 simp only [Option.some.injEq, Prod.mk.injEq] at H
 obtain ⟨rfl, rfl, rfl⟩ := H
 go_enter Tryd.func34, Tryd.ntmps34
 go_wp2_with (first | (refine be_ 2 #[.int .i64 0, .string (⟨#[]⟩ : ByteArray), .slice none 0 0] 28 ?_; intro gb101 hg w2 hbox hb; have n0_ := aa (below_step zjjbob hb); have n1_ := aa (hbox); have n2_ := aa ((zkpfjp : w.heap.size ≤ gb101)); have n3_ := aa ((zkpfjp : w.heap.size ≤ gb101)); clear HB; have HB := n0_; have BK101 := n1_; have GW101 := n2_; have GE101 := n3_; clear n0_ n1_ n2_ n3_; clear hb hbox hg; obtain ⟨hcz3_0, hcz3_1, hcz3_2, hfz3_0, hfz3_1, hfz3_2⟩ := blk3_ BK101.out))
 refine bodyPost_ret (results_cell_row rfl _ _ gb101 28 #[.int .i64 a0, .string (⟨#[]⟩ : ByteArray), .slice none 0 0] (0, 0) _ rfl (by (with_reducible repeat (first | refine blk_drewN ?_ _ | refine blk_drew ?_ | refine blk_alloc ?_ _)); refine blk_put (cs := #[.int .i64 a0, .string (⟨#[]⟩ : ByteArray), .slice none 0 0]) ?_ 2 _ rfl; (with_reducible repeat (first | refine blk_drewN ?_ _ | refine blk_drew ?_ | refine blk_alloc ?_ _)); refine blk_put (cs := #[.int .i64 a0, .string (⟨#[]⟩ : ByteArray), .slice none 0 0]) ?_ 1 _ rfl; (with_reducible repeat (first | refine blk_drewN ?_ _ | refine blk_drew ?_ | refine blk_alloc ?_ _)); refine blk_put (cs := #[.int .i64 0, .string (⟨#[]⟩ : ByteArray), .slice none 0 0]) ?_ 0 _ rfl; (with_reducible repeat (first | refine blk_drewN ?_ _ | refine blk_drew ?_ | refine blk_alloc ?_ _)); exact BK101.out) Tryd.underlying28 rfl (by kernel_rfl)) rfl ?_
 exact ⟨_, zlhpib, zhijhk, zkmbdh⟩
def spec_l1In.f (a0 : Int) (a1 : Int) (a2 : Int) : Option (Bool) := if a0 ≥ a1 then (some (decide (a0 ≤ a2))) else (some false)
theorem spec_l1In.calls (a0 : Int) (a1 : Int) (a2 : Int) (r : Bool) (w : World) (h : spec_l1In.f a0 a1 a2 = some r) :
  Calls Tryd.prog 57 #[.int .i64 a0, .int .i64 a1, .int .i64 a2] w fun e w' => e = .returned (.bool r) ∧ Drawn0 w w' := by
 have H : (if a0 ≥ a1 then (some (decide (a0 ≤ a2))) else (some false)) = some r := h
 clear h
 revert H
 refine itC_ (fun c4 H => ?_) fun c4 H => ?_
 ·
  have c4b0 : decide (a1 ≤ a0) = true := decide_eq_true c4
  clear c4
  obtain rfl := Option.some.inj H
  go_enter Tryd.func57, Tryd.ntmps57
  go_wp2
  go_ret
  exact ⟨zagbkp, ziajdh⟩
 have c4b0 : decide (a1 ≤ a0) = false := decide_eq_false c4
 clear c4
 obtain rfl := Option.some.inj H
 go_enter Tryd.func57, Tryd.ntmps57
 go_wp2
 go_ret
 exact ⟨zagbkp, ziajdh⟩
def spec_l2Data.f (a0 : Int) : Option (Bool) := (spec_l1In.f a0 0 9999).bind fun t101 => (some t101)
theorem spec_l2Data.calls (a0 : Int) (r : Bool) (w : World) (h : spec_l2Data.f a0 = some r) :
  Calls Tryd.prog 63 #[.int .i64 a0] w fun e w' => e = .returned (.bool r) ∧ Drawn0 w w' := by
 have H : ((spec_l1In.f a0 0 9999).bind fun t101 => (some t101)) = some r := h
 clear h
 revert H
 refine obs_ fun t101 A2 H => ?_
 obtain rfl := Option.some.inj H
 go_enter Tryd.func63, Tryd.ntmps63
 go_wp2_with (first | (refine gc_ Tryd.func57 (some 4) #[.int .i64 a0, .int .i64 0, .int .i64 9999] ?_; (with_reducible refine (spec_l1In.calls a0 0 9999 t101 _ A2.out).mono ?_); rintro e w' ⟨rfl, ⟨nd, rfl⟩⟩; refine ⟨_, rfl, ?_⟩))
 go_ret
 exact ⟨zagbkp, ziajdh⟩
def spec_l2At.l0 : Nat → List (S32) → ByteArray → Int → Option (Int)
 | 0, _, _, _ => none
 | k + 1, x0, x1, x5 => if x5 < (x0.length : Int) then (if 0 ≤ x5 then (if ((rd_T32 x0 x5).f0).toList = x1.toList then (some x5) else (spec_l2At.l0 k x0 x1 (wrap64 (x5 + 1)))) else (none)) else (some (-1))
def spec_l2At.f (k : Nat) (l0 : List (S32)) (a1 : ByteArray) : Option (Int) := spec_l2At.l0 k l0 a1 0
theorem spec_l2At.mono_l : ∀ k, (∀ y0 y1 y2, LeO (spec_l2At.l0 k y0 y1 y2) (spec_l2At.l0 (k + 1) y0 y1 y2))
 | 0 => fun _ _ _ r h => by simp [spec_l2At.l0] at h
 | k + 1 => by
  have ih0 := spec_l2At.mono_l k
  ·
   intro y0 y1 y2
   unfold spec_l2At.l0
   with_reducible repeat' first | exact ih0 _ _ _ | exact LeO.refl _ | exact LeO.none _ | refine LeO.ite ?_ ?_ | refine LeO.bind ?_ (fun _ => ?_)
theorem spec_l2At.mono : ∀ a0 a1 k, LeO (spec_l2At.f k a0 a1) (spec_l2At.f (k + 1) a0 a1) := by
 intro a0 a1 k
 have ih0 := spec_l2At.mono_l k
 unfold spec_l2At.f
 with_reducible repeat' first | exact ih0 _ _ _ | exact LeO.refl _ | exact LeO.none _ | refine LeO.ite ?_ ?_ | refine LeO.bind ?_ (fun _ => ?_)
theorem spec_l2At.calls (k : Nat) (A0 : Option Addr) (c0 : Nat) (l0 : List (S32)) (a1 : ByteArray) (r : Int) (w : World) (hr0 : Kd.C k32 w A0 l0.length l0) (hc0 : l0.length ≤ c0) (h : spec_l2At.f k l0 a1 = some r) :
  Calls Tryd.prog 64 #[.slice A0 l0.length c0, .string a1] w fun e w' => e = .returned (.int .i64 r) ∧ Drawn0 w w' := by
 have HR0 := aa hr0
 have HC0 := aa hc0
 clear hr0 hc0
 have H : (spec_l2At.l0 k l0 a1 0) = some r := h
 clear h
 have H' := aa H
 clear H
 go_enter Tryd.func64, Tryd.ntmps64
 go_wp2
 go_loopg [5] k (fun kq v5 w' => ∃ (x5_1 : Int), v5 = .int .i64 x5_1 ∧ Aside0 (spec_l2At.l0 kq l0 a1 x5_1 = some r) ∧ Aside0 (kq ≤ k) ∧ Drawn0 w w')
 case atStart => exact ⟨(0), zagbkp, H', ⟨Nat.le_refl _⟩, ziajdh⟩
 case round =>
  clear H'
  try clear p2
  obtain ⟨x5_1, rfl, HA, HK1, ⟨m1, rfl⟩⟩ := hrel
  cases gk with
  | zero => exact absurd HA.out (by simp [spec_l2At.l0])
  | succ k1 =>
   have H := HA.out
   clear HA
   simp only [spec_l2At.l0] at H
   revert H
   refine itD_ (fun c3b0 H => ?_) fun c3b0 H => ?_
   ·
    revert H
    refine itH_ fun c4b0 H => ?_
    revert H
    refine itE_ (fun c5b0 c5b1 H => ?_) fun c5b0 c5b1 H => ?_
    ·
     obtain rfl := Option.some.inj H
     have p101 : 0 ≤ (x5_1 : Int) := of_decide_eq_true zgglam
     have q101 : x5_1 < (l0.length : Int) := of_decide_eq_true zgglam
     obtain ⟨ad101, e101, hx101_0, hx101_1, hx101_2, hx101_3, hx101_4⟩ := at_T32 HR0.out x5_1 p101 q101
     cases e101
     replace p101 := eq_true p101
     replace q101 := eq_true q101
     go_wp2
     go_ret
     exact ⟨zagbkp, ziajdh⟩
    have H' := aa H
    clear H
    have p101 : 0 ≤ (x5_1 : Int) := of_decide_eq_true zgglam
    have q101 : x5_1 < (l0.length : Int) := of_decide_eq_true zgglam
    obtain ⟨ad101, e101, hx101_0, hx101_1, hx101_2, hx101_3, hx101_4⟩ := at_T32 HR0.out x5_1 p101 q101
    cases e101
    replace p101 := eq_true p101
    replace q101 := eq_true q101
    go_wp2
    go_roundg k1
    case measure => have := HK1.out; omega
    case rel => exact ⟨(wrap64 (x5_1 + 1)), zagbkp, H', ⟨by have := HK1.out; omega⟩, ziajdh⟩
   ·
    obtain rfl := Option.some.inj H
    go_wp2
    go_ret
    exact ⟨zagbkp, ziajdh⟩
def spec_l2Copy.f (l0 : List (S32)) : Option ((List (S32))) := (some (([] : List (S32)) : List (S32))).bind fun y101 => (if y101.length + l0.length < 2932031007402 then (some (y101 ++ l0)) else (none))
theorem spec_l2Copy.calls (A0 : Option Addr) (c0 : Nat) (l0 : List (S32)) (r : List (S32)) (w : World) (hr0 : Kd.C k32 w A0 l0.length l0) (hc0 : l0.length ≤ c0) (h : spec_l2Copy.f l0 = some r) :
  Calls Tryd.prog 65 #[.slice A0 l0.length c0] w fun e w' => ∃ v0_ : Value, e = .returned (v0_) ∧ Kd.R k32 32 w' w.heap.size (fun _ => True) v0_ r ∧ Below w.heap.size w w' := by
 have HR0 := aa hr0
 have HC0 := aa hc0
 clear hr0 hc0
 have HB := aa (Below.refl w.heap.size w)
 have H : ((some (([] : List (S32)) : List (S32))).bind fun y101 => (if y101.length + l0.length < 2932031007402 then (some (y101 ++ l0)) else (none))) = some r := h
 clear h
 revert H
 refine obl_ fun y101 Ny101 H => ?_
 revert H
 refine itG_ fun c2 H => ?_
 have LMc2 := aa c2
 clear c2
 obtain ⟨y104, hy104⟩ : ∃ y_ : List (S32), y_ = (y101 ++ l0) := ⟨_, rfl⟩
 replace H : (some y104) = some r := by cases hy104; exact H
 have Ny104 := aa hy104
 clear hy104
 obtain rfl := Option.some.inj H
 go_enter Tryd.func65, Tryd.ntmps65
 go_wp2_with (first | ((with_reducible refine gate_dst (N := 3) rfl ?_); refine Kd.R_lit k32 _ 32 ?hg (N := 3) ?hd (xs := ([] : List (S32))) (inner := []) (ok := fun _ => True) (okp := fun _ => True) ?hr ?hp (fun _ hk => hk) trivial (Below.refl _ _) (Nat.le_refl _) (by simp) ?_; (case hd => rfl); (case hg => rfl); (case hr => exact zhlgcp); (case hp => exact (Reps.none _ _)); intro v102 w3 ho4 hb hg_ hnew_; clear hg_ hnew_; (first | rw [← Ny101.out] at ho4 | (simp only [Int.reduceToNat] at ho4; rw [← Ny101.out] at ho4)); have HO103 := aa (Kd.R_lower ho4 (below_size zjjbob)); replace HB := aa (below_step zjjbob hb); clear hb ho4) | ((with_reducible refine gate_builtin (b := .append) (xs := #[.tmp 3, .tmp 4]) rfl ?_); at_builtin; refine Kd.R_append_rows k32 (w0 := w) w.heap.size rfl (.tmp 3) (.tmp 4) 24 32 (.agg #[(.string ⟨#[]⟩), (.int .i64 0), (.int .i64 0), (.int .i64 0), (.int .i64 0)]) 48 rfl Tryd.underlying24 info32 rfl (by decide) (by omega) v102 y101 l0 _ _ _ (fun _ => True) (fun _ => False) rfl rfl ?aO ?aR (fun _ _ h => h) (fun _ h => h.elim) ?aF ?aB ?aS ?aL ?_; (case aR => exact zfmbgg); (case aB => exact zjjbob); (case aF => exact (fun _ _ => trivial)); (case aO => exact (zcaken HO103.out)); (case aS => exact (below_size zjjbob)); (case aL => have := LMc2.out; omega); intro v105 w5 ho hb hg hat; rw [← Ny104.out] at ho; replace HB := aa (hb); have HO106 := aa (ho); clear HO103; clear ho hb hg hat))
 go_ret
 exact ⟨_, zlhpib, zcaken HO106.out, zjjbob⟩
def spec_l2Set.j0 : Nat → List (S32) → Int → Int → Bool → Option (Int × ByteArray × (List (S32)))
 | 0, _, _, _, _ => none
 | k + 1, x0, x2, x9, x31 => if x31 = true then ((spec_l2Bad.f 7).bind fun bt115 => (some (bt115.1, bt115.2.1, bt115.2.2))) else (if 0 ≤ x9 then (if x9 < (x0.length : Int) then (if ((rd_T32 x0 x9).f2) ≥ 999 then ((spec_l2Bad.f 2).bind fun bt121 => (some (bt121.1, bt121.2.1, bt121.2.2))) else ((spec_l2Copy.f x0).bind fun t126 => (if x9 < (t126.length : Int) then ((some (t126.set (x9 : Int).toNat (⟨(rd_T32 t126 x9).f0, x2, (rd_T32 t126 x9).f2, (rd_T32 t126 x9).f3, (rd_T32 t126 x9).f4⟩ : S32) : List (S32))).bind fun y129 => (some (0, (⟨#[]⟩ : ByteArray), (y129.set (x9 : Int).toNat (⟨(rd_T32 y129 x9).f0, (rd_T32 y129 x9).f1, wrap64 (((rd_T32 y129 x9).f2) + 1), (rd_T32 y129 x9).f3, (rd_T32 y129 x9).f4⟩ : S32))))) else (none)))) else (none)) else (none))
def spec_l2Set.f (k : Nat) (l0 : List (S32)) (a1 : ByteArray) (a2 : Int) (a3 : Int) : Option (Int × ByteArray × (List (S32))) := (spec_l2Data.f a2).bind fun t102 => (if t102 = true then ((spec_l2At.f k l0 a1).bind fun t108 => (if t108 < 0 then ((spec_l2Bad.f 4).bind fun bt109 => (some (bt109.1, bt109.2.1, bt109.2.2))) else (if a3 = (-1) then (spec_l2Set.j0 k l0 a2 t108 false) else (if 0 ≤ t108 then (if t108 < (l0.length : Int) then (spec_l2Set.j0 k l0 a2 t108 (a3 != ((rd_T32 l0 t108).f2))) else (none)) else (none))))) else ((spec_l2Bad.f 3).bind fun bt103 => (some (bt103.1, bt103.2.1, bt103.2.2))))
theorem spec_l2Set.mono_l : ∀ k, (∀ y0 y1 y2 y3, LeO (spec_l2Set.j0 k y0 y1 y2 y3) (spec_l2Set.j0 (k + 1) y0 y1 y2 y3))
 | 0 => fun _ _ _ _ r h => by simp [spec_l2Set.j0] at h
 | k + 1 => by
  have ih0 := spec_l2Set.mono_l k
  ·
   intro y0 y1 y2 y3
   unfold spec_l2Set.j0
   with_reducible repeat' first | exact ih0 _ _ _ _ | exact spec_l2At.mono _ _ _ | exact LeO.refl _ | exact LeO.none _ | refine LeO.ite ?_ ?_ | refine LeO.bind ?_ (fun _ => ?_)
theorem spec_l2Set.mono : ∀ a0 a1 a2 a3 k, LeO (spec_l2Set.f k a0 a1 a2 a3) (spec_l2Set.f (k + 1) a0 a1 a2 a3) := by
 intro a0 a1 a2 a3 k
 have ih0 := spec_l2Set.mono_l k
 unfold spec_l2Set.f
 with_reducible repeat' first | exact ih0 _ _ _ _ | exact spec_l2At.mono _ _ _ | exact LeO.refl _ | exact LeO.none _ | refine LeO.ite ?_ ?_ | refine LeO.bind ?_ (fun _ => ?_)
theorem spec_l2Set.calls (k : Nat) (A0 : Option Addr) (c0 : Nat) (l0 : List (S32)) (a1 : ByteArray) (a2 : Int) (a3 : Int) (r1 : Int) (r2 : ByteArray) (r3 : List (S32)) (w : World) (hr0 : Kd.C k32 w A0 l0.length l0) (hc0 : l0.length ≤ c0) (h : spec_l2Set.f k l0 a1 a2 a3 = some (r1, r2, r3)) :
  Calls Tryd.prog 35 #[.slice A0 l0.length c0, .string a1, .int .i64 a2, .int .i64 a3] w fun e w' => ∃ v2_ : Value, e = .returned (.agg #[.int .i64 r1, .string r2, v2_]) ∧ Kd.R k32 32 w' w.heap.size (fun _ => True) v2_ r3 ∧ Below w.heap.size w w' := by
 have hu28 := Tryd.underlying28
 have HR0 := aa hr0
 have HC0 := aa hc0
 clear hr0 hc0
 have HB := aa (Below.refl w.heap.size w)
 have H : ((spec_l2Data.f a2).bind fun t102 => (if t102 = true then ((spec_l2At.f k l0 a1).bind fun t108 => (if t108 < 0 then ((spec_l2Bad.f 4).bind fun bt109 => (some (bt109.1, bt109.2.1, bt109.2.2))) else (if a3 = (-1) then (spec_l2Set.j0 k l0 a2 t108 false) else (if 0 ≤ t108 then (if t108 < (l0.length : Int) then (spec_l2Set.j0 k l0 a2 t108 (a3 != ((rd_T32 l0 t108).f2))) else (none)) else (none))))) else ((spec_l2Bad.f 3).bind fun bt103 => (some (bt103.1, bt103.2.1, bt103.2.2))))) = some (r1, r2, r3) := h
 clear h
 revert H
 refine obs_ fun t102 A5 H => ?_
 by_cases c6 : t102 = true
 ·
  subst c6
  rw [if_pos rfl] at H
  revert H
  refine obs_ fun t108 A7 H => ?_
  revert H
  refine itD_ (fun c8b0 H => ?_) fun c8b0 H => ?_
  ·
   revert H
   refine ob3_ fun t109 t110 t111 A9 H => ?_
   (try dsimp only at H)
   simp only [Option.some.injEq, Prod.mk.injEq] at H
   obtain ⟨rfl, rfl, rfl⟩ := H
   go_enter Tryd.func35, Tryd.ntmps35
   go_wp2_with (first | (refine be_ 8 #[.int .i64 0, .string (⟨#[]⟩ : ByteArray), .slice none 0 0] 28 ?_; intro gb101 hg w10 hbox hb; have n0_ := aa (below_step zjjbob hb); have n1_ := aa (hbox); have n2_ := aa ((zkpfjp : w.heap.size ≤ gb101)); have n3_ := aa ((zkpfjp : w.heap.size ≤ gb101)); clear HB; have HB := n0_; have BK101 := n1_; have GW101 := n2_; have GE101 := n3_; clear n0_ n1_ n2_ n3_; clear hb hbox hg) | (refine gc_ Tryd.func63 (some 12) #[.int .i64 a2] ?_; (with_reducible refine (spec_l2Data.calls a2 true _ A5.out).mono ?_); rintro e w' ⟨rfl, ⟨nd, rfl⟩⟩; refine ⟨_, rfl, ?_⟩; (try (rw [drewN_self w10]; generalize hq_ : World.drewN w10 _ = w10; have n0_ : Aside0 (w10.heap[gb101]? = some (.cells #[.int .i64 0, .string (⟨#[]⟩ : ByteArray), .slice none 0 0] 28 (0, 0))) := ⟨by rw [← hq_]; exact (zkjhpm BK101.out)⟩; have n1_ : Aside0 (Below w.heap.size w w10) := ⟨by rw [← hq_]; exact zkmbdh⟩; clear BK101 HB hq_; have BK101 := n0_; have HB := n1_; clear n0_ n1_))) | (refine gc_ Tryd.func64 (some 17) #[.slice A0 l0.length c0, .string a1] ?_; (with_reducible refine (spec_l2At.calls k _ _ l0 a1 t108 _ zfmbgg HC0.out A7.out).mono ?_); rintro e w' ⟨rfl, ⟨nd, rfl⟩⟩; refine ⟨_, rfl, ?_⟩; (try (rw [drewN_self w10]; generalize hq_ : World.drewN w10 _ = w10; have n0_ : Aside0 (w10.heap[gb101]? = some (.cells #[.int .i64 0, .string (⟨#[]⟩ : ByteArray), .slice none 0 0] 28 (0, 0))) := ⟨by rw [← hq_]; exact (zkjhpm BK101.out)⟩; have n1_ : Aside0 (Below w.heap.size w w10) := ⟨by rw [← hq_]; exact zkmbdh⟩; clear BK101 HB hq_; have BK101 := n0_; have HB := n1_; clear n0_ n1_))) | (refine gc_ Tryd.func34 (some 20) #[.int .i64 4] ?_; (with_reducible refine (spec_l2Bad.calls 4 t109 t110 t111 _ A9.out).mono ?_); rintro e w11 ⟨v112, rfl, ho0, hb⟩; refine ⟨_, rfl, ?_⟩; have HO113 := aa (Kd.R_lower ho0 (below_size zkmbdh)); replace BK101 := aa (bb_ BK101.out hb); replace HB := aa (below_step zkmbdh hb); (try clear hb hk hi ho0); obtain ⟨hcz12_0, hcz12_1, hcz12_2, hfz12_0, hfz12_1, hfz12_2⟩ := blk3_ BK101.out; obtain ⟨Ao13, co13, eo13⟩ := Kd.R_slice HO113.out; subst eo13))
   refine bodyPost_ret (results_cell_row rfl _ _ gb101 28 #[.int .i64 t109, .string t110, .slice Ao13 t111.length co13] (0, 0) _ rfl zblijj Tryd.underlying28 rfl (by kernel_rfl)) rfl ?_
   exact ⟨_, zlhpib, by (with_reducible repeat (first | apply Kd.R_alloc | apply Kd.R_drewN | apply Kd.R_drew)); exact Kd.R_mono (Kd.R_far (p := ⟨gb101, 2, none⟩) (Kd.R_far (p := ⟨gb101, 1, none⟩) (Kd.R_far (p := ⟨gb101, 0, none⟩) (Kd.R_types HO113.out BK101.out (by decide)) (fun _ hk => hk.2) (.int .i64 t109)) (fun _ hk => hk.2) (.string t110)) (fun _ hk => hk.2) (.slice Ao13 t111.length co13)) (fun _ hk => trivial), zkmbdh⟩
  have HC14 := aa H
  clear H
  go_enter Tryd.func35, Tryd.ntmps35
  go_upto_region 6 with (first | (refine be_ 8 #[.int .i64 0, .string (⟨#[]⟩ : ByteArray), .slice none 0 0] 28 ?_; intro gb101 hg w15 hbox hb; have n0_ := aa (below_step zjjbob hb); have n1_ := aa (hbox); have n2_ := aa ((zkpfjp : w.heap.size ≤ gb101)); have n3_ := aa ((zkpfjp : w.heap.size ≤ gb101)); clear HB; have HB := n0_; have BK101 := n1_; have GW101 := n2_; have GE101 := n3_; clear n0_ n1_ n2_ n3_; clear hb hbox hg) | (refine gc_ Tryd.func63 (some 12) #[.int .i64 a2] ?_; (with_reducible refine (spec_l2Data.calls a2 true _ A5.out).mono ?_); rintro e w' ⟨rfl, ⟨nd, rfl⟩⟩; refine ⟨_, rfl, ?_⟩) | (refine gc_ Tryd.func64 (some 17) #[.slice A0 l0.length c0, .string a1] ?_; (with_reducible refine (spec_l2At.calls k _ _ l0 a1 t108 _ zklojj HC0.out A7.out).mono ?_); rintro e w' ⟨rfl, ⟨nd, rfl⟩⟩; refine ⟨_, rfl, ?_⟩))
  (try simp only [Act.put, List.setIfInBounds_toArray, List.set_cons_zero, List.set_cons_succ])
  go_cut [31] (fun v31 wc => ∃ (kq : Nat) (x31_13 : Bool), v31 = .bool x31_13 ∧ Aside0 (spec_l2Set.j0 kq l0 a2 t108 x31_13 = some (r1, r2, r3)) ∧ Aside0 (kq ≤ k) ∧ Aside0 (wc.heap[gb101]? = some (.cells #[.int .i64 0, .string (⟨#[]⟩ : ByteArray), (.slice none 0 0)] 28 (0, 0))) ∧ Aside0 (Below w.heap.size w wc))
  case first =>
   have H := HC14.out
   clear HC14
   revert H
   refine itE_ (fun c16b0 c16b1 H => ?_) fun c16b0 c16b1 H => ?_
   ·
    (first | rw [c16b0] | (simp only [i64_w, i32_w]; rw [c16b0]) | (simp only [c16b2, Bool.not_false, Bool.not_true]) | skip)
    have H' := aa H
    clear H
    go_wp2
    go_meet
    case rel => exact ⟨_, (false), zagbkp, H', ⟨zpacfg⟩, ⟨zkjhpm BK101.out⟩, ⟨zkmbdh⟩⟩
   (first | rw [c16b0] | (simp only [i64_w, i32_w]; rw [c16b0]) | (simp only [c16b2, Bool.not_false, Bool.not_true]) | skip)
   revert H
   refine itH_ fun c17b0 H => ?_
   revert H
   refine itH_ fun c18b0 H => ?_
   have H' := aa H
   clear H
   have p114 : 0 ≤ (t108 : Int) := of_decide_eq_true zgglam
   have q114 : t108 < (l0.length : Int) := of_decide_eq_true zgglam
   obtain ⟨ad114, e114, hx114_0, hx114_1, hx114_2, hx114_3, hx114_4⟩ := at_T32 HR0.out t108 p114 q114
   cases e114
   replace hx114_0 := pb HB.out hx114_0
   replace hx114_1 := pb HB.out hx114_1
   replace hx114_2 := pb HB.out hx114_2
   replace hx114_3 := pb HB.out hx114_3
   replace hx114_4 := pb HB.out hx114_4
   replace p114 := eq_true p114
   replace q114 := eq_true q114
   go_wp2
   go_meet
   case rel => exact ⟨_, ((a3 != ((rd_T32 l0 t108).f2))), zagbkp, H', ⟨zpacfg⟩, ⟨zkjhpm BK101.out⟩, ⟨zkmbdh⟩⟩
  case rest =>
   clear HC14
   try clear p1
   try clear q1
   try clear hx1
   try clear p2
   try clear c6
   try clear c8b0
   try clear p11
   try clear q11
   try clear hx11
   try clear c16b0
   try clear c16b1
   try clear c16b2
   try clear c17b0
   try clear c18b0
   try clear hcz12_0
   try clear hcz12_1
   try clear hcz12_2
   try clear hfz12_0
   try clear hfz12_1
   try clear hfz12_2
   try clear hx114_0
   try clear hx114_1
   try clear hx114_2
   try clear hx114_3
   try clear hx114_4
   try clear p114
   try clear q114
   obtain ⟨kq, x31_13, rfl, HA, HJ13, BK101, HB⟩ := hcut
   cases kq with
   | zero => exact absurd HA.out (by simp [spec_l2Set.j0])
   | succ kj13 =>
    have H := HA.out
    clear HA
    simp only [spec_l2Set.j0] at H
    by_cases c19 : x31_13 = true
    ·
     subst c19
     rw [if_pos rfl] at H
     revert H
     refine ob3_ fun t115 t116 t117 A20 H => ?_
     (try dsimp only at H)
     simp only [Option.some.injEq, Prod.mk.injEq] at H
     obtain ⟨rfl, rfl, rfl⟩ := H
     go_wp2_with (first | (refine gc_ Tryd.func34 (some 32) #[.int .i64 7] ?_; (with_reducible refine (spec_l2Bad.calls 7 t115 t116 t117 _ A20.out).mono ?_); rintro e w21 ⟨v118, rfl, ho0, hb⟩; refine ⟨_, rfl, ?_⟩; have HO119 := aa (Kd.R_lower ho0 (below_size zkmbdh)); replace BK101 := aa (bb_ BK101.out hb); replace HB := aa (below_step zkmbdh hb); (try clear hb hk hi ho0); obtain ⟨hcz22_0, hcz22_1, hcz22_2, hfz22_0, hfz22_1, hfz22_2⟩ := blk3_ BK101.out; obtain ⟨Ao23, co23, eo23⟩ := Kd.R_slice HO119.out; subst eo23))
     refine bodyPost_ret (results_cell_row rfl _ _ gb101 28 #[.int .i64 t115, .string t116, .slice Ao23 t117.length co23] (0, 0) _ rfl (by (with_reducible repeat (first | refine blk_drewN ?_ _ | refine blk_drew ?_ | refine blk_alloc ?_ _)); refine blk_put (cs := #[.int .i64 t115, .string t116, .slice none 0 0]) ?_ 2 _ rfl; (with_reducible repeat (first | refine blk_drewN ?_ _ | refine blk_drew ?_ | refine blk_alloc ?_ _)); refine blk_put (cs := #[.int .i64 t115, .string (⟨#[]⟩ : ByteArray), .slice none 0 0]) ?_ 1 _ rfl; (with_reducible repeat (first | refine blk_drewN ?_ _ | refine blk_drew ?_ | refine blk_alloc ?_ _)); refine blk_put (cs := #[.int .i64 0, .string (⟨#[]⟩ : ByteArray), .slice none 0 0]) ?_ 0 _ rfl; (with_reducible repeat (first | refine blk_drewN ?_ _ | refine blk_drew ?_ | refine blk_alloc ?_ _)); exact BK101.out) Tryd.underlying28 rfl (by kernel_rfl)) rfl ?_
     exact ⟨_, zlhpib, by (with_reducible repeat (first | apply Kd.R_alloc | apply Kd.R_drewN | apply Kd.R_drew)); exact Kd.R_mono (Kd.R_far (p := ⟨gb101, 2, none⟩) (Kd.R_far (p := ⟨gb101, 1, none⟩) (Kd.R_far (p := ⟨gb101, 0, none⟩) (Kd.R_types HO119.out BK101.out (by decide)) (fun _ hk => hk.2) (.int .i64 t115)) (fun _ hk => hk.2) (.string t116)) (fun _ hk => hk.2) (.slice Ao23 t117.length co23)) (fun _ hk => trivial), zkmbdh⟩
    ·
     replace c19 := Bool.eq_false_iff.mpr c19
     subst c19
     rw [if_neg fT_] at H
     revert H
     refine itH_ fun c24b0 H => ?_
     revert H
     refine itH_ fun c25b0 H => ?_
     revert H
     refine itC_ (fun c26 H => ?_) fun c26 H => ?_
     ·
      have c26b0 : decide (999 ≤ ((rd_T32 l0 t108).f2)) = true := decide_eq_true c26
      clear c26
      revert H
      refine ob3_ fun t121 t122 t123 A27 H => ?_
      (try dsimp only at H)
      simp only [Option.some.injEq, Prod.mk.injEq] at H
      obtain ⟨rfl, rfl, rfl⟩ := H
      have p120 : 0 ≤ (t108 : Int) := of_decide_eq_true zgglam
      have q120 : t108 < (l0.length : Int) := of_decide_eq_true zgglam
      obtain ⟨ad120, e120, hx120_0, hx120_1, hx120_2, hx120_3, hx120_4⟩ := at_T32 HR0.out t108 p120 q120
      cases e120
      replace hx120_0 := pb HB.out hx120_0
      replace hx120_1 := pb HB.out hx120_1
      replace hx120_2 := pb HB.out hx120_2
      replace hx120_3 := pb HB.out hx120_3
      replace hx120_4 := pb HB.out hx120_4
      replace p120 := eq_true p120
      replace q120 := eq_true q120
      go_wp2_with (first | (refine gc_ Tryd.func34 (some 39) #[.int .i64 2] ?_; (with_reducible refine (spec_l2Bad.calls 2 t121 t122 t123 _ A27.out).mono ?_); rintro e w28 ⟨v124, rfl, ho0, hb⟩; refine ⟨_, rfl, ?_⟩; have HO125 := aa (Kd.R_lower ho0 (below_size zkmbdh)); replace BK101 := aa (bb_ BK101.out hb); replace HB := aa (below_step zkmbdh hb); (try clear hb hk hi ho0); obtain ⟨hcz29_0, hcz29_1, hcz29_2, hfz29_0, hfz29_1, hfz29_2⟩ := blk3_ BK101.out; obtain ⟨Ao30, co30, eo30⟩ := Kd.R_slice HO125.out; subst eo30))
      refine bodyPost_ret (results_cell_row rfl _ _ gb101 28 #[.int .i64 t121, .string t122, .slice Ao30 t123.length co30] (0, 0) _ rfl (by (with_reducible repeat (first | refine blk_drewN ?_ _ | refine blk_drew ?_ | refine blk_alloc ?_ _)); refine blk_put (cs := #[.int .i64 t121, .string t122, .slice none 0 0]) ?_ 2 _ rfl; (with_reducible repeat (first | refine blk_drewN ?_ _ | refine blk_drew ?_ | refine blk_alloc ?_ _)); refine blk_put (cs := #[.int .i64 t121, .string (⟨#[]⟩ : ByteArray), .slice none 0 0]) ?_ 1 _ rfl; (with_reducible repeat (first | refine blk_drewN ?_ _ | refine blk_drew ?_ | refine blk_alloc ?_ _)); refine blk_put (cs := #[.int .i64 0, .string (⟨#[]⟩ : ByteArray), .slice none 0 0]) ?_ 0 _ rfl; (with_reducible repeat (first | refine blk_drewN ?_ _ | refine blk_drew ?_ | refine blk_alloc ?_ _)); exact BK101.out) Tryd.underlying28 rfl (by kernel_rfl)) rfl ?_
      exact ⟨_, zlhpib, by (with_reducible repeat (first | apply Kd.R_alloc | apply Kd.R_drewN | apply Kd.R_drew)); exact Kd.R_mono (Kd.R_far (p := ⟨gb101, 2, none⟩) (Kd.R_far (p := ⟨gb101, 1, none⟩) (Kd.R_far (p := ⟨gb101, 0, none⟩) (Kd.R_types HO125.out BK101.out (by decide)) (fun _ hk => hk.2) (.int .i64 t121)) (fun _ hk => hk.2) (.string t122)) (fun _ hk => hk.2) (.slice Ao30 t123.length co30)) (fun _ hk => trivial), zkmbdh⟩
     have c26b0 : decide (999 ≤ ((rd_T32 l0 t108).f2)) = false := decide_eq_false c26
     clear c26
     revert H
     refine obs_ fun t126 A31 H => ?_
     revert H
     refine itH_ fun c32b0 H => ?_
     revert H
     refine obl_ fun y129 Ny129 H => ?_
     obtain ⟨y131, hy131⟩ : ∃ y_ : List (S32), y_ = (y129.set (t108 : Int).toNat (⟨(rd_T32 y129 t108).f0, (rd_T32 y129 t108).f1, wrap64 (((rd_T32 y129 t108).f2) + 1), (rd_T32 y129 t108).f3, (rd_T32 y129 t108).f4⟩ : S32)) := ⟨_, rfl⟩
     replace H : (some (0, (⟨#[]⟩ : ByteArray), y131)) = some (r1, r2, r3) := by cases hy131; exact H
     have Ny131 := aa hy131
     clear hy131
     simp only [Option.some.injEq, Prod.mk.injEq] at H
     obtain ⟨rfl, rfl, rfl⟩ := H
     have p120 : 0 ≤ (t108 : Int) := of_decide_eq_true zgglam
     have q120 : t108 < (l0.length : Int) := of_decide_eq_true zgglam
     obtain ⟨ad120, e120, hx120_0, hx120_1, hx120_2, hx120_3, hx120_4⟩ := at_T32 HR0.out t108 p120 q120
     cases e120
     replace hx120_0 := pb HB.out hx120_0
     replace hx120_1 := pb HB.out hx120_1
     replace hx120_2 := pb HB.out hx120_2
     replace hx120_3 := pb HB.out hx120_3
     replace hx120_4 := pb HB.out hx120_4
     replace p120 := eq_true p120
     replace q120 := eq_true q120
     go_wp2_with (first | (refine gc_ Tryd.func65 (some 41) #[.slice (some ad120) l0.length c0] ?_; (with_reducible refine (spec_l2Copy.calls _ _ l0 t126 _ zfmbgg HC0.out A31.out).mono ?_); rintro e w35 ⟨v127, rfl, ho0, hb⟩; refine ⟨_, rfl, ?_⟩; have HO128 := aa (Kd.R_lower ho0 (below_size zkmbdh)); replace BK101 := aa (bb_ BK101.out hb); replace HB := aa (below_step zkmbdh hb); (try clear hb hk hi ho0); have p33 : 0 ≤ (t108 : Int) := of_decide_eq_true zgglam; have q33 : (t108 : Int) < ((t126.length : Int) : Int) := of_decide_eq_true zgglam; obtain ⟨go33, co33, eo33, gb33, gl33, cl33, HG33⟩ := Kd.R_form HO128.out (by omega); (first | cases eo33 | (injection eo33 with ea_ en_ ec_; (first | subst ea_ | (injection ea_ with ea_; subst ea_)); subst ec_; clear en_)); have GB33 := aa gb33; have GG33 := aa HG33; clear gb33 gl33 HG33; obtain ⟨ce33, hcl33, hM33, hcc33, hfr33⟩ := Kd.R_elem HO128.out z32 (t108 : Int) p33 q33; obtain rfl := k32_openM hM33; have hx33_0 : w35.cell? ⟨go33, (t108 : Int).toNat * 5, none⟩ = some (.string ((rd_T32 t126 t108).f0)) := hcc33 0 _ rfl; have hx33_1 : w35.cell? ⟨go33, (t108 : Int).toNat * 5 + 1, none⟩ = some (.int .i64 ((rd_T32 t126 t108).f1)) := hcc33 1 _ rfl; have hx33_2 : w35.cell? ⟨go33, (t108 : Int).toNat * 5 + 2, none⟩ = some (.int .i64 ((rd_T32 t126 t108).f2)) := hcc33 2 _ rfl; have hx33_3 : w35.cell? ⟨go33, (t108 : Int).toNat * 5 + 3, none⟩ = some (.int .i64 ((rd_T32 t126 t108).f3)) := hcc33 3 _ rfl; have hx33_4 : w35.cell? ⟨go33, (t108 : Int).toNat * 5 + 4, none⟩ = some (.int .i64 ((rd_T32 t126 t108).f4)) := hcc33 4 _ rfl; have hf33_0 : w35.frozen? ⟨go33, (t108 : Int).toNat * 5, none⟩ = false := hfr33 0; have hf33_1 : w35.frozen? ⟨go33, (t108 : Int).toNat * 5 + 1, none⟩ = false := hfr33 1; have hf33_2 : w35.frozen? ⟨go33, (t108 : Int).toNat * 5 + 2, none⟩ = false := hfr33 2; have hf33_3 : w35.frozen? ⟨go33, (t108 : Int).toNat * 5 + 3, none⟩ = false := hfr33 3; have hf33_4 : w35.frozen? ⟨go33, (t108 : Int).toNat * 5 + 4, none⟩ = false := hfr33 4; clear hcl33 hcc33 hfr33 hM33; replace p33 := eq_true p33; replace q33 := eq_true q33; have HX36 := aa (show Kd.R k32 32 w35 w.heap.size (fun _ => True) (.slice (some ⟨go33, 0, none⟩) t126.length co33) t126 from (zcaken HO128.out)); obtain ⟨ce36, hcl36, hM36, hcc36, hfr36⟩ := Kd.R_elem HX36.out z32 (t108 : Int) (of_decide_eq_true zgglam) (by have h_ : (t108 : Int) < ((t126.length : Int) : Int) := of_decide_eq_true zgglam; first | exact h_ | (have e_ := (Kd.R_reads' HO128.out).1; omega) | simpa using h_); obtain rfl := k32_openM hM36; have HP36 := Kd.R_seg HX36.out (t108 : Int) (of_decide_eq_true zgglam) (by have h_ : (t108 : Int) < ((t126.length : Int) : Int) := of_decide_eq_true zgglam; first | exact h_ | (have e_ := (Kd.R_reads' HO128.out).1; omega) | simpa using h_) (seg := [.int .i64 a2]) (j := 1) hcl36 hcc36 (show 2 ≤ 5 from by decide) (x' := (⟨(rd_T32 t126 t108).f0, a2, (rd_T32 t126 t108).f2, (rd_T32 t126 t108).f3, (rd_T32 t126 t108).f4⟩ : S32)) (k32_mkM _ _ _ (⟨(rd_T32 t126 t108).f0, a2, (rd_T32 t126 t108).f2, (rd_T32 t126 t108).f3, (rd_T32 t126 t108).f4⟩ : S32) ) (fun _ hk => hk); have hx36_1 := hcc36 1 _ rfl; (try simp only [show (k32).sz = 5 from rfl, Nat.mul_one, Nat.add_zero] at hx36_1); have hf36_1 := hfr36 1; (try simp only [show (k32).sz = 5 from rfl, Nat.mul_one, Nat.add_zero] at hf36_1); clear hcl36 hcc36 hfr36 hM36) | ((with_reducible refine gate_store (t := 2) (p := 46) rfl ?_); refine store_event (t := 2) (p := 46) (v := ?vo_w37) (w1 := (w35.setCell ⟨go33, (t108 : Int).toNat * 5 + 1, none⟩ (.int .i64 a2))) ?hg ?ho ?hn ?hr ?_; (case ho => rfl); (case hg => rfl); (case hn => rfl); (case hr => exact zhlgcp); intro w37 hw; have hg : w35.grownBy w37 (some go33) := (by rw [hw]; exact HP36.2); have hp_ : Kd.R k32 32 w37 w.heap.size (fun _ => True) (.slice (some ⟨go33, 0, none⟩) t126.length co33) y129 := (by rw [hw, Ny129.out]; exact HP36.1); clear HP36; have n0_ := aa (blk_grown (g := gb101) (o := .cells #[.int .i64 0, .string (⟨#[]⟩ : ByteArray), .slice none 0 0] 28 (0, 0)) (zkjhpm BK101.out) hg (Kd.R_ne HO128.out BK101.out (by decide))); have n1_ := aa (hp_); have n2_ := aa ((by rw [hw]; exact below_set (HB.out) GB33.out : Below w.heap.size w w37)); clear BK101; clear HO128; clear HB; have BK101 := n0_; have HO128 := n1_; have HB := n2_; clear n0_ n1_ n2_; clear hg hw hp_; have p130 : 0 ≤ (t108 : Int) := of_decide_eq_true zgglam; have q130 : t108 < (y129.length : Int) := (by have h_ : (t108 : Int) < ((t126.length : Int) : Int) := of_decide_eq_true zgglam; first | (have e_ := (Kd.R_reads' HO128.out).1; omega) | simpa only [Ny129.out, List.length_set] using h_); have ql130 : ((t108 : Int) < ((t126.length : Int) : Int)) = True := eq_true (of_decide_eq_true zgglam); obtain ⟨ad130, e130, hx130_0, hx130_1, hx130_2, hx130_3, hx130_4⟩ := at_T32 (Kd.R_reads' HO128.out).2.2 t108 p130 q130; obtain rfl : (⟨go33, 0, none⟩ : Addr) = ad130 := (by injection e130); (first | simp only [add_plain] at hx130_0 | simp only [add_at] at hx130_0 | simp only [Addr.add, Nat.zero_add] at hx130_0 | skip); (first | simp only [add_plain] at hx130_1 | simp only [add_at] at hx130_1 | simp only [Addr.add, Nat.zero_add] at hx130_1 | skip); (first | simp only [add_plain] at hx130_2 | simp only [add_at] at hx130_2 | simp only [Addr.add, Nat.zero_add] at hx130_2 | skip); (first | simp only [add_plain] at hx130_3 | simp only [add_at] at hx130_3 | simp only [Addr.add, Nat.zero_add] at hx130_3 | skip); (first | simp only [add_plain] at hx130_4 | simp only [add_at] at hx130_4 | simp only [Addr.add, Nat.zero_add] at hx130_4 | skip); replace p130 := eq_true p130; replace q130 := eq_true q130; have p34 : 0 ≤ (t108 : Int) := of_decide_eq_true zgglam; have q34 : (t108 : Int) < ((t126.length : Int) : Int) := of_decide_eq_true zgglam; obtain ⟨ce34, hcl34, hM34, hcc34, hfr34⟩ := Kd.R_elem HO128.out z32 (t108 : Int) p34 q34; obtain rfl := k32_openM hM34; have hx34_0 : w37.cell? ⟨go33, (t108 : Int).toNat * 5, none⟩ = some (.string ((rd_T32 y129 t108).f0)) := hcc34 0 _ rfl; have hx34_1 : w37.cell? ⟨go33, (t108 : Int).toNat * 5 + 1, none⟩ = some (.int .i64 ((rd_T32 y129 t108).f1)) := hcc34 1 _ rfl; have hx34_2 : w37.cell? ⟨go33, (t108 : Int).toNat * 5 + 2, none⟩ = some (.int .i64 ((rd_T32 y129 t108).f2)) := hcc34 2 _ rfl; have hx34_3 : w37.cell? ⟨go33, (t108 : Int).toNat * 5 + 3, none⟩ = some (.int .i64 ((rd_T32 y129 t108).f3)) := hcc34 3 _ rfl; have hx34_4 : w37.cell? ⟨go33, (t108 : Int).toNat * 5 + 4, none⟩ = some (.int .i64 ((rd_T32 y129 t108).f4)) := hcc34 4 _ rfl; have hf34_0 : w37.frozen? ⟨go33, (t108 : Int).toNat * 5, none⟩ = false := hfr34 0; have hf34_1 : w37.frozen? ⟨go33, (t108 : Int).toNat * 5 + 1, none⟩ = false := hfr34 1; have hf34_2 : w37.frozen? ⟨go33, (t108 : Int).toNat * 5 + 2, none⟩ = false := hfr34 2; have hf34_3 : w37.frozen? ⟨go33, (t108 : Int).toNat * 5 + 3, none⟩ = false := hfr34 3; have hf34_4 : w37.frozen? ⟨go33, (t108 : Int).toNat * 5 + 4, none⟩ = false := hfr34 4; clear hcl34 hcc34 hfr34 hM34; replace p34 := eq_true p34; replace q34 := eq_true q34; have HX38 := aa (show Kd.R k32 32 w37 w.heap.size (fun _ => True) (.slice (some ⟨go33, 0, none⟩) t126.length co33) y129 from (zcaken HO128.out)); obtain ⟨ce38, hcl38, hM38, hcc38, hfr38⟩ := Kd.R_elem HX38.out z32 (t108 : Int) (of_decide_eq_true zgglam) (by have h_ : (t108 : Int) < ((t126.length : Int) : Int) := of_decide_eq_true zgglam; first | exact h_ | (have e_ := (Kd.R_reads' HO128.out).1; omega) | simpa using h_); obtain rfl := k32_openM hM38; have HP38 := Kd.R_seg HX38.out (t108 : Int) (of_decide_eq_true zgglam) (by have h_ : (t108 : Int) < ((t126.length : Int) : Int) := of_decide_eq_true zgglam; first | exact h_ | (have e_ := (Kd.R_reads' HO128.out).1; omega) | simpa using h_) (seg := [.int .i64 (wrap64 (((rd_T32 y129 t108).f2) + 1))]) (j := 2) hcl38 hcc38 (show 3 ≤ 5 from by decide) (x' := (⟨(rd_T32 y129 t108).f0, (rd_T32 y129 t108).f1, wrap64 (((rd_T32 y129 t108).f2) + 1), (rd_T32 y129 t108).f3, (rd_T32 y129 t108).f4⟩ : S32)) (k32_mkM _ _ _ (⟨(rd_T32 y129 t108).f0, (rd_T32 y129 t108).f1, wrap64 (((rd_T32 y129 t108).f2) + 1), (rd_T32 y129 t108).f3, (rd_T32 y129 t108).f4⟩ : S32) ) (fun _ hk => hk); have hx38_2 := hcc38 2 _ rfl; (try simp only [show (k32).sz = 5 from rfl, Nat.mul_one, Nat.add_zero] at hx38_2); have hf38_2 := hfr38 2; (try simp only [show (k32).sz = 5 from rfl, Nat.mul_one, Nat.add_zero] at hf38_2); clear hcl38 hcc38 hfr38 hM38) | ((with_reducible refine gate_store (t := 2) (p := 54) rfl ?_); refine store_event (t := 2) (p := 54) (v := ?vo_w39) (w1 := (w37.setCell ⟨go33, (t108 : Int).toNat * 5 + 2, none⟩ (.int .i64 (wrap64 (((rd_T32 y129 t108).f2) + 1))))) ?hg ?ho ?hn ?hr ?_; (case ho => rfl); (case hg => rfl); (case hn => rfl); (case hr => exact zhlgcp); intro w39 hw; have hg : w37.grownBy w39 (some go33) := (by rw [hw]; exact HP38.2); have hp_ : Kd.R k32 32 w39 w.heap.size (fun _ => True) (.slice (some ⟨go33, 0, none⟩) t126.length co33) y131 := (by rw [hw, Ny131.out]; exact HP38.1); clear HP38; have n0_ := aa (blk_grown (g := gb101) (o := .cells #[.int .i64 0, .string (⟨#[]⟩ : ByteArray), .slice none 0 0] 28 (0, 0)) (zkjhpm BK101.out) hg (Kd.R_ne HO128.out BK101.out (by decide))); have n1_ := aa (hp_); have n2_ := aa ((by rw [hw]; exact below_set (HB.out) GB33.out : Below w.heap.size w w39)); clear BK101; clear HO128; clear HB; have BK101 := n0_; have HO128 := n1_; have HB := n2_; clear n0_ n1_ n2_; clear hg hw hp_; obtain ⟨hcz40_0, hcz40_1, hcz40_2, hfz40_0, hfz40_1, hfz40_2⟩ := blk3_ BK101.out))
     refine bodyPost_ret (results_cell_row rfl _ _ gb101 28 #[.int .i64 0, .string (⟨#[]⟩ : ByteArray), .slice (some ⟨go33, 0, none⟩) t126.length co33] (0, 0) _ rfl zkhiid Tryd.underlying28 rfl (by kernel_rfl)) rfl ?_
     exact ⟨_, zlhpib, by (with_reducible repeat (first | apply Kd.R_alloc | apply Kd.R_drewN | apply Kd.R_drew)); exact Kd.R_mono (Kd.R_far (p := ⟨gb101, 2, none⟩) (Kd.R_far (p := ⟨gb101, 1, none⟩) (Kd.R_far (p := ⟨gb101, 0, none⟩) (Kd.R_types HO128.out BK101.out (by decide)) (fun _ hk => hk.2) (.int .i64 0)) (fun _ hk => hk.2) (.string (⟨#[]⟩ : ByteArray))) (fun _ hk => hk.2) (.slice (some ⟨go33, 0, none⟩) t126.length co33)) (fun _ hk => trivial), zkmbdh⟩
 replace c6 := Bool.eq_false_iff.mpr c6
 subst c6
 rw [if_neg fT_] at H
 revert H
 refine ob3_ fun t103 t104 t105 A41 H => ?_
 (try dsimp only at H)
 simp only [Option.some.injEq, Prod.mk.injEq] at H
 obtain ⟨rfl, rfl, rfl⟩ := H
 go_enter Tryd.func35, Tryd.ntmps35
 go_wp2_with (first | (refine be_ 8 #[.int .i64 0, .string (⟨#[]⟩ : ByteArray), .slice none 0 0] 28 ?_; intro gb101 hg w42 hbox hb; have n0_ := aa (below_step zjjbob hb); have n1_ := aa (hbox); have n2_ := aa ((zkpfjp : w.heap.size ≤ gb101)); have n3_ := aa ((zkpfjp : w.heap.size ≤ gb101)); clear HB; have HB := n0_; have BK101 := n1_; have GW101 := n2_; have GE101 := n3_; clear n0_ n1_ n2_ n3_; clear hb hbox hg) | (refine gc_ Tryd.func63 (some 12) #[.int .i64 a2] ?_; (with_reducible refine (spec_l2Data.calls a2 false _ A5.out).mono ?_); rintro e w' ⟨rfl, ⟨nd, rfl⟩⟩; refine ⟨_, rfl, ?_⟩; (try (rw [drewN_self w42]; generalize hq_ : World.drewN w42 _ = w42; have n0_ : Aside0 (w42.heap[gb101]? = some (.cells #[.int .i64 0, .string (⟨#[]⟩ : ByteArray), .slice none 0 0] 28 (0, 0))) := ⟨by rw [← hq_]; exact (zkjhpm BK101.out)⟩; have n1_ : Aside0 (Below w.heap.size w w42) := ⟨by rw [← hq_]; exact zkmbdh⟩; clear BK101 HB hq_; have BK101 := n0_; have HB := n1_; clear n0_ n1_))) | (refine gc_ Tryd.func34 (some 14) #[.int .i64 3] ?_; (with_reducible refine (spec_l2Bad.calls 3 t103 t104 t105 _ A41.out).mono ?_); rintro e w43 ⟨v106, rfl, ho0, hb⟩; refine ⟨_, rfl, ?_⟩; have HO107 := aa (Kd.R_lower ho0 (below_size zkmbdh)); replace BK101 := aa (bb_ BK101.out hb); replace HB := aa (below_step zkmbdh hb); (try clear hb hk hi ho0); obtain ⟨hcz44_0, hcz44_1, hcz44_2, hfz44_0, hfz44_1, hfz44_2⟩ := blk3_ BK101.out; obtain ⟨Ao45, co45, eo45⟩ := Kd.R_slice HO107.out; subst eo45))
 refine bodyPost_ret (results_cell_row rfl _ _ gb101 28 #[.int .i64 t103, .string t104, .slice Ao45 t105.length co45] (0, 0) _ rfl zdmkil Tryd.underlying28 rfl (by kernel_rfl)) rfl ?_
 exact ⟨_, zlhpib, by (with_reducible repeat (first | apply Kd.R_alloc | apply Kd.R_drewN | apply Kd.R_drew)); exact Kd.R_mono (Kd.R_far (p := ⟨gb101, 2, none⟩) (Kd.R_far (p := ⟨gb101, 1, none⟩) (Kd.R_far (p := ⟨gb101, 0, none⟩) (Kd.R_types HO107.out BK101.out (by decide)) (fun _ hk => hk.2) (.int .i64 t103)) (fun _ hk => hk.2) (.string t104)) (fun _ hk => hk.2) (.slice Ao45 t105.length co45)) (fun _ hk => trivial), zkmbdh⟩
def spec_l1Last.l0 : Nat → ByteArray → Int → Int → Option (Int)
 | 0, _, _, _ => none
 | k + 1, x0, x3, x4 => if x4 < (x0.size : Int) then (if 0 ≤ x4 then (if (bt x0 x4) = 47 then (spec_l1Last.l0 k x0 x4 (wrap64 (x4 + 1))) else (spec_l1Last.l0 k x0 x3 (wrap64 (x4 + 1)))) else (none)) else (some x3)
def spec_l1Last.f (k : Nat) (a0 : ByteArray) : Option (Int) := spec_l1Last.l0 k a0 0 0
theorem spec_l1Last.mono_l : ∀ k, (∀ y0 y1 y2, LeO (spec_l1Last.l0 k y0 y1 y2) (spec_l1Last.l0 (k + 1) y0 y1 y2))
 | 0 => fun _ _ _ r h => by simp [spec_l1Last.l0] at h
 | k + 1 => by
  have ih0 := spec_l1Last.mono_l k
  ·
   intro y0 y1 y2
   unfold spec_l1Last.l0
   with_reducible repeat' first | exact ih0 _ _ _ | exact LeO.refl _ | exact LeO.none _ | refine LeO.ite ?_ ?_ | refine LeO.bind ?_ (fun _ => ?_)
theorem spec_l1Last.mono : ∀ a0 k, LeO (spec_l1Last.f k a0) (spec_l1Last.f (k + 1) a0) := by
 intro a0 k
 have ih0 := spec_l1Last.mono_l k
 unfold spec_l1Last.f
 with_reducible repeat' first | exact ih0 _ _ _ | exact LeO.refl _ | exact LeO.none _ | refine LeO.ite ?_ ?_ | refine LeO.bind ?_ (fun _ => ?_)
theorem spec_l1Last.calls (k : Nat) (a0 : ByteArray) (r : Int) (w : World) (h : spec_l1Last.f k a0 = some r) :
  Calls Tryd.prog 76 #[.string a0] w fun e w' => e = .returned (.int .i64 r) ∧ Drawn0 w w' := by
 have H : (spec_l1Last.l0 k a0 0 0) = some r := h
 clear h
 have H' := aa H
 clear H
 go_enter Tryd.func76, Tryd.ntmps76
 go_wp2
 go_loopg [3, 4] k (fun kq v3 v4 w' => ∃ (x3_1 : Int) (x4_1 : Int), v3 = .int .i64 x3_1 ∧ v4 = .int .i64 x4_1 ∧ Aside0 (spec_l1Last.l0 kq a0 x3_1 x4_1 = some r) ∧ Aside0 (kq ≤ k) ∧ Drawn0 w w')
 case atStart => exact ⟨(0), (0), zagbkp, zagbkp, H', ⟨Nat.le_refl _⟩, ziajdh⟩
 case round =>
  clear H'
  obtain ⟨x3_1, x4_1, rfl, rfl, HA, HK1, ⟨m1, rfl⟩⟩ := hrel
  cases gk with
  | zero => exact absurd HA.out (by simp [spec_l1Last.l0])
  | succ k1 =>
   have H := HA.out
   clear HA
   simp only [spec_l1Last.l0] at H
   revert H
   refine itD_ (fun c2b0 H => ?_) fun c2b0 H => ?_
   ·
    revert H
    refine itH_ fun c3b0 H => ?_
    revert H
    refine itE_ (fun c5b0 c5b1 H => ?_) fun c5b0 c5b1 H => ?_
    ·
     have H' := aa H
     clear H
     have p4 : 0 ≤ (x4_1 : Int) := of_decide_eq_true zgglam
     have q4 : x4_1 < (a0.size : Int) := of_decide_eq_true zgglam
     have hx4 := bt_at a0 x4_1
     replace p4 := eq_true p4
     replace q4 := eq_true q4
     go_wp2
     go_roundg k1
     case measure => have := HK1.out; omega
     case rel => exact ⟨(x4_1), (wrap64 (x4_1 + 1)), zagbkp, zagbkp, H', ⟨by have := HK1.out; omega⟩, ziajdh⟩
    have H' := aa H
    clear H
    have p4 : 0 ≤ (x4_1 : Int) := of_decide_eq_true zgglam
    have q4 : x4_1 < (a0.size : Int) := of_decide_eq_true zgglam
    have hx4 := bt_at a0 x4_1
    replace p4 := eq_true p4
    replace q4 := eq_true q4
    go_wp2
    go_roundg k1
    case measure => have := HK1.out; omega
    case rel => exact ⟨(x3_1), (wrap64 (x4_1 + 1)), zagbkp, zagbkp, H', ⟨by have := HK1.out; omega⟩, ziajdh⟩
   ·
    obtain rfl := Option.some.inj H
    go_wp2
    go_ret
    exact ⟨zagbkp, ziajdh⟩
def spec_l1Parent.f (k : Nat) (a0 : ByteArray) : Option (ByteArray) := (spec_l1Last.f k a0).bind fun t101 => (if t101 = 0 then (some (⟨#[47]⟩ : ByteArray)) else (if 0 ≤ t101 then (if t101 ≤ (a0.size : Int) then (some (a0.extract 0 (t101 : Int).toNat)) else (none)) else (none)))
theorem spec_l1Parent.mono : ∀ a0 k, LeO (spec_l1Parent.f k a0) (spec_l1Parent.f (k + 1) a0) := by
 intro a0 k
 unfold spec_l1Parent.f
 with_reducible repeat' first | exact spec_l1Last.mono _ _ | exact LeO.refl _ | exact LeO.none _ | refine LeO.ite ?_ ?_ | refine LeO.bind ?_ (fun _ => ?_)
theorem spec_l1Parent.calls (k : Nat) (a0 : ByteArray) (r : ByteArray) (w : World) (h : spec_l1Parent.f k a0 = some r) :
  Calls Tryd.prog 75 #[.string a0] w fun e w' => e = .returned (.string r) ∧ Drawn0 w w' := by
 have H : ((spec_l1Last.f k a0).bind fun t101 => (if t101 = 0 then (some (⟨#[47]⟩ : ByteArray)) else (if 0 ≤ t101 then (if t101 ≤ (a0.size : Int) then (some (a0.extract 0 (t101 : Int).toNat)) else (none)) else (none)))) = some r := h
 clear h
 revert H
 refine obs_ fun t101 A2 H => ?_
 revert H
 refine itE_ (fun c3b0 c3b1 H => ?_) fun c3b0 c3b1 H => ?_
 ·
  obtain rfl := Option.some.inj H
  go_enter Tryd.func75, Tryd.ntmps75
  go_wp2_with (first | (refine gc_ Tryd.func76 (some 5) #[.string a0] ?_; (with_reducible refine (spec_l1Last.calls k a0 t101 _ A2.out).mono ?_); rintro e w' ⟨rfl, ⟨nd, rfl⟩⟩; refine ⟨_, rfl, ?_⟩))
  go_ret
  exact ⟨zagbkp, ziajdh⟩
 revert H
 refine itG_ fun c4 H => ?_
 have c4b0 := eq_true c4
 have c4b1 := decide_eq_true c4
 clear c4
 revert H
 refine itG_ fun c5 H => ?_
 have c5b0 := eq_true c5
 have c5b1 := decide_eq_true c5
 clear c5
 obtain rfl := Option.some.inj H
 go_enter Tryd.func75, Tryd.ntmps75
 go_wp2_with (first | (refine gc_ Tryd.func76 (some 5) #[.string a0] ?_; (with_reducible refine (spec_l1Last.calls k a0 t101 _ A2.out).mono ?_); rintro e w' ⟨rfl, ⟨nd, rfl⟩⟩; refine ⟨_, rfl, ?_⟩))
 go_ret
 exact ⟨zagbkp, ziajdh⟩
def spec_l2Kids.l0 : Nat → List (S32) → ByteArray → List ByteArray → Int → Option (List ByteArray)
 | 0, _, _, _, _ => none
 | k + 1, x0, x1, x5, x6 => if x6 < (x0.length : Int) then (if 0 ≤ x6 then (if ((rd_T32 x0 x6).f0).toList = ([47] : List UInt8) then (spec_l2Kids.l0 k x0 x1 x5 (wrap64 (x6 + 1))) else ((spec_l1Parent.f k ((rd_T32 x0 x6).f0)).bind fun t105 => (if t105.toList = x1.toList then ((spec_l1Last.f k ((rd_T32 x0 x6).f0)).bind fun t106 => (if 0 ≤ (wrap64 (t106 + 1)) then (if (wrap64 (t106 + 1)) ≤ (((rd_T32 x0 x6).f0).size : Int) then (if x5.length < 8796093022208 then (spec_l2Kids.l0 k x0 x1 (x5 ++ [((rd_T32 x0 x6).f0).extract ((wrap64 (t106 + 1)) : Int).toNat ((rd_T32 x0 x6).f0).size]) (wrap64 (x6 + 1))) else (none)) else (none)) else (none))) else (spec_l2Kids.l0 k x0 x1 x5 (wrap64 (x6 + 1)))))) else (none)) else (some x5)
def spec_l2Kids.f (k : Nat) (l0 : List (S32)) (a1 : ByteArray) : Option (List ByteArray) := spec_l2Kids.l0 k l0 a1 (([] : List ByteArray)) 0
theorem spec_l2Kids.mono_l : ∀ k, (∀ y0 y1 y2 y3, LeO (spec_l2Kids.l0 k y0 y1 y2 y3) (spec_l2Kids.l0 (k + 1) y0 y1 y2 y3))
 | 0 => fun _ _ _ _ r h => by simp [spec_l2Kids.l0] at h
 | k + 1 => by
  have ih0 := spec_l2Kids.mono_l k
  ·
   intro y0 y1 y2 y3
   unfold spec_l2Kids.l0
   with_reducible repeat' first | exact ih0 _ _ _ _ | exact spec_l1Last.mono _ _ | exact spec_l1Parent.mono _ _ | exact LeO.refl _ | exact LeO.none _ | refine LeO.ite ?_ ?_ | refine LeO.bind ?_ (fun _ => ?_)
theorem spec_l2Kids.mono : ∀ a0 a1 k, LeO (spec_l2Kids.f k a0 a1) (spec_l2Kids.f (k + 1) a0 a1) := by
 intro a0 a1 k
 have ih0 := spec_l2Kids.mono_l k
 unfold spec_l2Kids.f
 with_reducible repeat' first | exact ih0 _ _ _ _ | exact spec_l1Last.mono _ _ | exact spec_l1Parent.mono _ _ | exact LeO.refl _ | exact LeO.none _ | refine LeO.ite ?_ ?_ | refine LeO.bind ?_ (fun _ => ?_)
theorem spec_l2Kids.calls (k : Nat) (A0 : Option Addr) (c0 : Nat) (l0 : List (S32)) (a1 : ByteArray) (r : List ByteArray) (w : World) (hr0 : Kd.C k32 w A0 l0.length l0) (hc0 : l0.length ≤ c0) (h : spec_l2Kids.f k l0 a1 = some r) :
  Calls Tryd.prog 67 #[.slice A0 l0.length c0, .string a1] w fun e w' => ∃ v0_ : Value, e = .returned (v0_) ∧ Kd.R Kd.string 9 w' w.heap.size (fun _ => True) v0_ r ∧ Below w.heap.size w w' := by
 have HR0 := aa hr0
 have HC0 := aa hc0
 clear hr0 hc0
 have HB := aa (Below.refl w.heap.size w)
 have H : (spec_l2Kids.l0 k l0 a1 (([] : List ByteArray)) 0) = some r := h
 clear h
 obtain ⟨y101, hy101⟩ : ∃ y_ : List ByteArray, y_ = (([] : List ByteArray)) := ⟨_, rfl⟩
 replace H : (spec_l2Kids.l0 k l0 a1 y101 0) = some r := by cases hy101; exact H
 have Ny101 := aa hy101
 clear hy101
 have H' := aa H
 clear H
 go_enter Tryd.func67, Tryd.ntmps67
 go_wp2_with (first | ((with_reducible refine gate_dst (N := 8) rfl ?_); refine Kd.R_lit Kd.string _ 9 ?hg (N := 8) ?hd (xs := ([] : List ByteArray)) (inner := []) (ok := fun _ => True) (okp := fun _ => True) ?hr ?hp (fun _ hk => hk) trivial (Below.refl _ _) (Nat.le_refl _) (by simp) ?_; (case hd => rfl); (case hg => rfl); (case hr => exact zhlgcp); (case hp => exact (Reps.none _ _)); intro v102 w3 ho4 hb hg_ hnew_; clear hg_ hnew_; (first | rw [← Ny101.out] at ho4 | (simp only [Int.reduceToNat] at ho4; rw [← Ny101.out] at ho4)); have HO103 := aa (Kd.R_lower ho4 (below_size zjjbob)); replace HB := aa (below_step zjjbob hb); clear hb ho4))
 go_loopg [5, 6] k (fun kq v5 v6 w' => ∃ (x5_1 : List ByteArray) (x6_1 : Int), v6 = .int .i64 x6_1 ∧ Aside0 (spec_l2Kids.l0 kq l0 a1 x5_1 x6_1 = some r) ∧ Aside0 (kq ≤ k) ∧ Aside0 (Kd.R Kd.string 9 w' w.heap.size (fun _ => True) v5 x5_1) ∧ Aside0 (Below w.heap.size w w'))
 case atStart => exact ⟨(y101), (0), zagbkp, H', ⟨Nat.le_refl _⟩, ⟨zcaken HO103.out⟩, ⟨zjjbob⟩⟩
 case round =>
  clear H'
  try clear p2
  obtain ⟨x5_1, x6_1, rfl, HA, HK1, HO_5, HB⟩ := hrel
  cases gk with
  | zero => exact absurd HA.out (by simp [spec_l2Kids.l0])
  | succ k1 =>
   have H := HA.out
   clear HA
   simp only [spec_l2Kids.l0] at H
   revert H
   refine itD_ (fun c5b0 H => ?_) fun c5b0 H => ?_
   ·
    revert H
    refine itH_ fun c6b0 H => ?_
    revert H
    refine itE_ (fun c7b0 c7b1 H => ?_) fun c7b0 c7b1 H => ?_
    ·
     have H' := aa H
     clear H
     have p104 : 0 ≤ (x6_1 : Int) := of_decide_eq_true zgglam
     have q104 : x6_1 < (l0.length : Int) := of_decide_eq_true zgglam
     obtain ⟨ad104, e104, hx104_0, hx104_1, hx104_2, hx104_3, hx104_4⟩ := at_T32 HR0.out x6_1 p104 q104
     cases e104
     replace hx104_0 := pb HB.out hx104_0
     replace hx104_1 := pb HB.out hx104_1
     replace hx104_2 := pb HB.out hx104_2
     replace hx104_3 := pb HB.out hx104_3
     replace hx104_4 := pb HB.out hx104_4
     replace p104 := eq_true p104
     replace q104 := eq_true q104
     go_wp2
     go_roundg k1
     case measure => have := HK1.out; omega
     case rel => exact ⟨(x5_1), (wrap64 (x6_1 + 1)), zagbkp, H', ⟨by have := HK1.out; omega⟩, ⟨zcaken HO_5.out⟩, ⟨zjjbob⟩⟩
    revert H
    refine obs_ fun t105 A8 H => ?_
    revert H
    refine itE_ (fun c9b0 c9b1 H => ?_) fun c9b0 c9b1 H => ?_
    ·
     revert H
     refine obs_ fun t106 A10 H => ?_
     obtain ⟨ji11, hji11⟩ : ∃ j_ : Int, (wrap64 (t106 + 1)) = j_ := ⟨_, rfl⟩
     first | rw [hji11] at H | simp only [hji11] at H
     (try rw [hji11] at A8)
     (try rw [hji11] at A10)
     have hji11w : (IntKind.i64.wrap (t106 + 1)) = ji11 := (i64_w _).trans hji11
     revert H
     refine itG_ fun c12 H => ?_
     have c12b0 := eq_true c12
     have c12b1 := decide_eq_true c12
     clear c12
     revert H
     refine itG_ fun c13 H => ?_
     have c13b0 := eq_true c13
     have c13b1 := decide_eq_true c13
     clear c13
     revert H
     refine itG_ fun c14 H => ?_
     have LMc14 := aa c14
     clear c14
     obtain ⟨y107, hy107⟩ : ∃ y_ : List ByteArray, y_ = (x5_1 ++ [((rd_T32 l0 x6_1).f0).extract ((ji11) : Int).toNat ((rd_T32 l0 x6_1).f0).size]) := ⟨_, rfl⟩
     replace H : (spec_l2Kids.l0 k1 l0 a1 y107 (wrap64 (x6_1 + 1))) = some r := by cases hy107; exact H
     have Ny107 := aa hy107
     clear hy107
     have H' := aa H
     clear H
     have p104 : 0 ≤ (x6_1 : Int) := of_decide_eq_true zgglam
     have q104 : x6_1 < (l0.length : Int) := of_decide_eq_true zgglam
     obtain ⟨ad104, e104, hx104_0, hx104_1, hx104_2, hx104_3, hx104_4⟩ := at_T32 HR0.out x6_1 p104 q104
     cases e104
     replace hx104_0 := pb HB.out hx104_0
     replace hx104_1 := pb HB.out hx104_1
     replace hx104_2 := pb HB.out hx104_2
     replace hx104_3 := pb HB.out hx104_3
     replace hx104_4 := pb HB.out hx104_4
     replace p104 := eq_true p104
     replace q104 := eq_true q104
     go_wp2_with (first | (go_at_call 75; (with_reducible refine (spec_l1Parent.calls k1 ((rd_T32 l0 x6_1).f0) t105 _ A8.out).mono ?_); rintro e w' ⟨rfl, ⟨nd, rfl⟩⟩) | (refine gc_ Tryd.func76 (some 31) #[.string ((rd_T32 l0 x6_1).f0)] ?_; (with_reducible refine (spec_l1Last.calls k1 ((rd_T32 l0 x6_1).f0) t106 _ A10.out).mono ?_); rintro e w' ⟨rfl, ⟨nd, rfl⟩⟩; refine ⟨_, rfl, ?_⟩) | ((with_reducible refine gate_builtin (b := .append) (xs := #[.tmp 28, .tmp 34]) rfl ?_); at_builtin; refine Kd.R_append Kd.string (w0 := w) w.heap.size rfl (.tmp 28) (.tmp 34) 38 9 (.string ⟨#[]⟩) 16 rfl Tryd.underlying38 info9 rfl (by decide) (by omega) u5 x5_1 (((rd_T32 l0 x6_1).f0).extract ((ji11) : Int).toNat ((rd_T32 l0 x6_1).f0).size) [.string (((rd_T32 l0 x6_1).f0).extract ((ji11) : Int).toNat ((rd_T32 l0 x6_1).f0).size)] (fun _ => True) (fun _ => False) rfl rfl ?aP (fun _ hk => hk.elim) ?aF ?aO ?aB ?aS ?aL ?_; (case aP => exact rfl); (case aB => exact zjjbob); (case aF => exact (fun _ _ => trivial)); (case aO => exact (zcaken HO_5.out)); (case aS => exact (below_size zjjbob)); (case aL => have := LMc14.out; omega); intro v108 w15 ho hb hg hat; rw [← Ny107.out] at ho; replace HB := aa (hb); have HO109 := aa (ho); clear HO_5; clear ho hb hg hat))
     go_roundg k1
     case measure => have := HK1.out; omega
     case rel => exact ⟨(y107), (wrap64 (x6_1 + 1)), zagbkp, H', ⟨by have := HK1.out; omega⟩, ⟨zcaken HO109.out⟩, ⟨zjjbob⟩⟩
    have H' := aa H
    clear H
    have p104 : 0 ≤ (x6_1 : Int) := of_decide_eq_true zgglam
    have q104 : x6_1 < (l0.length : Int) := of_decide_eq_true zgglam
    obtain ⟨ad104, e104, hx104_0, hx104_1, hx104_2, hx104_3, hx104_4⟩ := at_T32 HR0.out x6_1 p104 q104
    cases e104
    replace hx104_0 := pb HB.out hx104_0
    replace hx104_1 := pb HB.out hx104_1
    replace hx104_2 := pb HB.out hx104_2
    replace hx104_3 := pb HB.out hx104_3
    replace hx104_4 := pb HB.out hx104_4
    replace p104 := eq_true p104
    replace q104 := eq_true q104
    go_wp2_with (first | (go_at_call 75; (with_reducible refine (spec_l1Parent.calls k1 ((rd_T32 l0 x6_1).f0) t105 _ A8.out).mono ?_); rintro e w' ⟨rfl, ⟨nd, rfl⟩⟩))
    go_roundg k1
    case measure => have := HK1.out; omega
    case rel => exact ⟨(x5_1), (wrap64 (x6_1 + 1)), zagbkp, H', ⟨by have := HK1.out; omega⟩, ⟨zcaken HO_5.out⟩, ⟨zjjbob⟩⟩
   ·
    obtain rfl := Option.some.inj H
    go_wp2
    go_ret
    exact ⟨_, zlhpib, zcaken HO_5.out, zjjbob⟩
def spec_l2Delete.j0 : Nat → List (S32) → ByteArray → Int → Bool → Option (Int × ByteArray × (List (S32)))
 | 0, _, _, _, _ => none
 | k + 1, x0, x1, x7, x28 => if x28 = true then ((spec_l2Bad.f 7).bind fun bt114 => (some (bt114.1, bt114.2.1, bt114.2.2))) else ((spec_l2Kids.f k x0 x1).bind fun t119 => (if (t119.length : Int) > 0 then ((spec_l2Bad.f 8).bind fun bt122 => (some (bt122.1, bt122.2.1, bt122.2.2))) else ((some (([] : List (S32)) : List (S32))).bind fun y127 => (if 0 ≤ x7 then (if x7 ≤ (x0.length : Int) then ((some (x0.take (x7 : Int).toNat : List (S32))).bind fun y130 => (if y127.length + y130.length < 2932031007402 then ((some (y127 ++ y130 : List (S32))).bind fun y134 => (if 0 ≤ (wrap64 (x7 + 1)) then (if (wrap64 (x7 + 1)) ≤ (x0.length : Int) then ((some (x0.drop ((wrap64 (x7 + 1)) : Int).toNat : List (S32))).bind fun y137 => (if y134.length + y137.length < 2932031007402 then (some (0, (⟨#[]⟩ : ByteArray), (y134 ++ y137))) else (none))) else (none)) else (none))) else (none))) else (none)) else (none)))))
def spec_l2Delete.f (k : Nat) (l0 : List (S32)) (a1 : ByteArray) (a2 : Int) : Option (Int × ByteArray × (List (S32))) := if a1.toList = ([47] : List UInt8) then ((spec_l2Bad.f 1).bind fun bt102 => (some (bt102.1, bt102.2.1, bt102.2.2))) else ((spec_l2At.f k l0 a1).bind fun t107 => (if t107 < 0 then ((spec_l2Bad.f 4).bind fun bt108 => (some (bt108.1, bt108.2.1, bt108.2.2))) else (if a2 = (-1) then (spec_l2Delete.j0 k l0 a1 t107 false) else (if 0 ≤ t107 then (if t107 < (l0.length : Int) then (spec_l2Delete.j0 k l0 a1 t107 (a2 != ((rd_T32 l0 t107).f2))) else (none)) else (none)))))
theorem spec_l2Delete.mono_l : ∀ k, (∀ y0 y1 y2 y3, LeO (spec_l2Delete.j0 k y0 y1 y2 y3) (spec_l2Delete.j0 (k + 1) y0 y1 y2 y3))
 | 0 => fun _ _ _ _ r h => by simp [spec_l2Delete.j0] at h
 | k + 1 => by
  have ih0 := spec_l2Delete.mono_l k
  ·
   intro y0 y1 y2 y3
   unfold spec_l2Delete.j0
   with_reducible repeat' first | exact ih0 _ _ _ _ | exact spec_l2At.mono _ _ _ | exact spec_l2Kids.mono _ _ _ | exact LeO.refl _ | exact LeO.none _ | refine LeO.ite ?_ ?_ | refine LeO.bind ?_ (fun _ => ?_)
theorem spec_l2Delete.mono : ∀ a0 a1 a2 k, LeO (spec_l2Delete.f k a0 a1 a2) (spec_l2Delete.f (k + 1) a0 a1 a2) := by
 intro a0 a1 a2 k
 have ih0 := spec_l2Delete.mono_l k
 unfold spec_l2Delete.f
 with_reducible repeat' first | exact ih0 _ _ _ _ | exact spec_l2At.mono _ _ _ | exact spec_l2Kids.mono _ _ _ | exact LeO.refl _ | exact LeO.none _ | refine LeO.ite ?_ ?_ | refine LeO.bind ?_ (fun _ => ?_)
theorem spec_l2Delete.calls (k : Nat) (A0 : Option Addr) (c0 : Nat) (l0 : List (S32)) (a1 : ByteArray) (a2 : Int) (r1 : Int) (r2 : ByteArray) (r3 : List (S32)) (w : World) (hr0 : Kd.C k32 w A0 l0.length l0) (hc0 : l0.length ≤ c0) (h : spec_l2Delete.f k l0 a1 a2 = some (r1, r2, r3)) :
  Calls Tryd.prog 41 #[.slice A0 l0.length c0, .string a1, .int .i64 a2] w fun e w' => ∃ v2_ : Value, e = .returned (.agg #[.int .i64 r1, .string r2, v2_]) ∧ Kd.R k32 32 w' w.heap.size (fun _ => True) v2_ r3 ∧ Below w.heap.size w w' := by
 have hu28 := Tryd.underlying28
 have HR0 := aa hr0
 have HC0 := aa hc0
 clear hr0 hc0
 have HB := aa (Below.refl w.heap.size w)
 have H : (if a1.toList = ([47] : List UInt8) then ((spec_l2Bad.f 1).bind fun bt102 => (some (bt102.1, bt102.2.1, bt102.2.2))) else ((spec_l2At.f k l0 a1).bind fun t107 => (if t107 < 0 then ((spec_l2Bad.f 4).bind fun bt108 => (some (bt108.1, bt108.2.1, bt108.2.2))) else (if a2 = (-1) then (spec_l2Delete.j0 k l0 a1 t107 false) else (if 0 ≤ t107 then (if t107 < (l0.length : Int) then (spec_l2Delete.j0 k l0 a1 t107 (a2 != ((rd_T32 l0 t107).f2))) else (none)) else (none)))))) = some (r1, r2, r3) := h
 clear h
 revert H
 refine itE_ (fun c4b0 c4b1 H => ?_) fun c4b0 c4b1 H => ?_
 ·
  revert H
  refine ob3_ fun t102 t103 t104 A5 H => ?_
  (try dsimp only at H)
  simp only [Option.some.injEq, Prod.mk.injEq] at H
  obtain ⟨rfl, rfl, rfl⟩ := H
  go_enter Tryd.func41, Tryd.ntmps41
  go_wp2_with (first | (refine be_ 6 #[.int .i64 0, .string (⟨#[]⟩ : ByteArray), .slice none 0 0] 28 ?_; intro gb101 hg w6 hbox hb; have n0_ := aa (below_step zjjbob hb); have n1_ := aa (hbox); have n2_ := aa ((zkpfjp : w.heap.size ≤ gb101)); have n3_ := aa ((zkpfjp : w.heap.size ≤ gb101)); clear HB; have HB := n0_; have BK101 := n1_; have GW101 := n2_; have GE101 := n3_; clear n0_ n1_ n2_ n3_; clear hb hbox hg) | (refine gc_ Tryd.func34 (some 11) #[.int .i64 1] ?_; (with_reducible refine (spec_l2Bad.calls 1 t102 t103 t104 _ A5.out).mono ?_); rintro e w7 ⟨v105, rfl, ho0, hb⟩; refine ⟨_, rfl, ?_⟩; have HO106 := aa (Kd.R_lower ho0 (below_size zkmbdh)); replace BK101 := aa (bb_ BK101.out hb); replace HB := aa (below_step zkmbdh hb); (try clear hb hk hi ho0); obtain ⟨hcz8_0, hcz8_1, hcz8_2, hfz8_0, hfz8_1, hfz8_2⟩ := blk3_ BK101.out; obtain ⟨Ao9, co9, eo9⟩ := Kd.R_slice HO106.out; subst eo9))
  refine bodyPost_ret (results_cell_row rfl _ _ gb101 28 #[.int .i64 t102, .string t103, .slice Ao9 t104.length co9] (0, 0) _ rfl (by (with_reducible repeat (first | refine blk_drewN ?_ _ | refine blk_drew ?_ | refine blk_alloc ?_ _)); refine blk_put (cs := #[.int .i64 t102, .string t103, .slice none 0 0]) ?_ 2 _ rfl; (with_reducible repeat (first | refine blk_drewN ?_ _ | refine blk_drew ?_ | refine blk_alloc ?_ _)); refine blk_put (cs := #[.int .i64 t102, .string (⟨#[]⟩ : ByteArray), .slice none 0 0]) ?_ 1 _ rfl; (with_reducible repeat (first | refine blk_drewN ?_ _ | refine blk_drew ?_ | refine blk_alloc ?_ _)); refine blk_put (cs := #[.int .i64 0, .string (⟨#[]⟩ : ByteArray), .slice none 0 0]) ?_ 0 _ rfl; (with_reducible repeat (first | refine blk_drewN ?_ _ | refine blk_drew ?_ | refine blk_alloc ?_ _)); exact BK101.out) Tryd.underlying28 rfl (by kernel_rfl)) rfl ?_
  exact ⟨_, zlhpib, by (with_reducible repeat (first | apply Kd.R_alloc | apply Kd.R_drewN | apply Kd.R_drew)); exact Kd.R_mono (Kd.R_far (p := ⟨gb101, 2, none⟩) (Kd.R_far (p := ⟨gb101, 1, none⟩) (Kd.R_far (p := ⟨gb101, 0, none⟩) (Kd.R_types HO106.out BK101.out (by decide)) (fun _ hk => hk.2) (.int .i64 t102)) (fun _ hk => hk.2) (.string t103)) (fun _ hk => hk.2) (.slice Ao9 t104.length co9)) (fun _ hk => trivial), zkmbdh⟩
 revert H
 refine obs_ fun t107 A10 H => ?_
 revert H
 refine itD_ (fun c11b0 H => ?_) fun c11b0 H => ?_
 ·
  revert H
  refine ob3_ fun t108 t109 t110 A12 H => ?_
  (try dsimp only at H)
  simp only [Option.some.injEq, Prod.mk.injEq] at H
  obtain ⟨rfl, rfl, rfl⟩ := H
  go_enter Tryd.func41, Tryd.ntmps41
  go_wp2_with (first | (refine be_ 6 #[.int .i64 0, .string (⟨#[]⟩ : ByteArray), .slice none 0 0] 28 ?_; intro gb101 hg w13 hbox hb; have n0_ := aa (below_step zjjbob hb); have n1_ := aa (hbox); have n2_ := aa ((zkpfjp : w.heap.size ≤ gb101)); have n3_ := aa ((zkpfjp : w.heap.size ≤ gb101)); clear HB; have HB := n0_; have BK101 := n1_; have GW101 := n2_; have GE101 := n3_; clear n0_ n1_ n2_ n3_; clear hb hbox hg) | (refine gc_ Tryd.func64 (some 14) #[.slice A0 l0.length c0, .string a1] ?_; (with_reducible refine (spec_l2At.calls k _ _ l0 a1 t107 _ zfmbgg HC0.out A10.out).mono ?_); rintro e w' ⟨rfl, ⟨nd, rfl⟩⟩; refine ⟨_, rfl, ?_⟩; (try (rw [drewN_self w13]; generalize hq_ : World.drewN w13 _ = w13; have n0_ : Aside0 (w13.heap[gb101]? = some (.cells #[.int .i64 0, .string (⟨#[]⟩ : ByteArray), .slice none 0 0] 28 (0, 0))) := ⟨by rw [← hq_]; exact (zkjhpm BK101.out)⟩; have n1_ : Aside0 (Below w.heap.size w w13) := ⟨by rw [← hq_]; exact zkmbdh⟩; clear BK101 HB hq_; have BK101 := n0_; have HB := n1_; clear n0_ n1_))) | (refine gc_ Tryd.func34 (some 17) #[.int .i64 4] ?_; (with_reducible refine (spec_l2Bad.calls 4 t108 t109 t110 _ A12.out).mono ?_); rintro e w14 ⟨v111, rfl, ho0, hb⟩; refine ⟨_, rfl, ?_⟩; have HO112 := aa (Kd.R_lower ho0 (below_size zkmbdh)); replace BK101 := aa (bb_ BK101.out hb); replace HB := aa (below_step zkmbdh hb); (try clear hb hk hi ho0); obtain ⟨hcz15_0, hcz15_1, hcz15_2, hfz15_0, hfz15_1, hfz15_2⟩ := blk3_ BK101.out; obtain ⟨Ao16, co16, eo16⟩ := Kd.R_slice HO112.out; subst eo16))
  refine bodyPost_ret (results_cell_row rfl _ _ gb101 28 #[.int .i64 t108, .string t109, .slice Ao16 t110.length co16] (0, 0) _ rfl zmdafi Tryd.underlying28 rfl (by kernel_rfl)) rfl ?_
  exact ⟨_, zlhpib, by (with_reducible repeat (first | apply Kd.R_alloc | apply Kd.R_drewN | apply Kd.R_drew)); exact Kd.R_mono (Kd.R_far (p := ⟨gb101, 2, none⟩) (Kd.R_far (p := ⟨gb101, 1, none⟩) (Kd.R_far (p := ⟨gb101, 0, none⟩) (Kd.R_types HO112.out BK101.out (by decide)) (fun _ hk => hk.2) (.int .i64 t108)) (fun _ hk => hk.2) (.string t109)) (fun _ hk => hk.2) (.slice Ao16 t110.length co16)) (fun _ hk => trivial), zkmbdh⟩
 have HC17 := aa H
 clear H
 go_enter Tryd.func41, Tryd.ntmps41
 go_upto_region 6 with (first | (refine be_ 6 #[.int .i64 0, .string (⟨#[]⟩ : ByteArray), .slice none 0 0] 28 ?_; intro gb101 hg w18 hbox hb; have n0_ := aa (below_step zjjbob hb); have n1_ := aa (hbox); have n2_ := aa ((zkpfjp : w.heap.size ≤ gb101)); have n3_ := aa ((zkpfjp : w.heap.size ≤ gb101)); clear HB; have HB := n0_; have BK101 := n1_; have GW101 := n2_; have GE101 := n3_; clear n0_ n1_ n2_ n3_; clear hb hbox hg) | (refine gc_ Tryd.func64 (some 14) #[.slice A0 l0.length c0, .string a1] ?_; (with_reducible refine (spec_l2At.calls k _ _ l0 a1 t107 _ zfmbgg HC0.out A10.out).mono ?_); rintro e w' ⟨rfl, ⟨nd, rfl⟩⟩; refine ⟨_, rfl, ?_⟩))
 (try simp only [Act.put, List.setIfInBounds_toArray, List.set_cons_zero, List.set_cons_succ])
 go_cut [28] (fun v28 wc => ∃ (kq : Nat) (x28_16 : Bool), v28 = .bool x28_16 ∧ Aside0 (spec_l2Delete.j0 kq l0 a1 t107 x28_16 = some (r1, r2, r3)) ∧ Aside0 (kq ≤ k) ∧ Aside0 (wc.heap[gb101]? = some (.cells #[.int .i64 0, .string (⟨#[]⟩ : ByteArray), (.slice none 0 0)] 28 (0, 0))) ∧ Aside0 (Below w.heap.size w wc))
 case first =>
  have H := HC17.out
  clear HC17
  revert H
  refine itE_ (fun c19b0 c19b1 H => ?_) fun c19b0 c19b1 H => ?_
  ·
   (first | rw [c19b0] | (simp only [i64_w, i32_w]; rw [c19b0]) | (simp only [c19b2, Bool.not_false, Bool.not_true]) | skip)
   have H' := aa H
   clear H
   go_wp2
   go_meet
   case rel => exact ⟨_, (false), zagbkp, H', ⟨zpacfg⟩, ⟨zkjhpm BK101.out⟩, ⟨zkmbdh⟩⟩
  (first | rw [c19b0] | (simp only [i64_w, i32_w]; rw [c19b0]) | (simp only [c19b2, Bool.not_false, Bool.not_true]) | skip)
  revert H
  refine itH_ fun c20b0 H => ?_
  revert H
  refine itH_ fun c21b0 H => ?_
  have H' := aa H
  clear H
  have p113 : 0 ≤ (t107 : Int) := of_decide_eq_true zgglam
  have q113 : t107 < (l0.length : Int) := of_decide_eq_true zgglam
  obtain ⟨ad113, e113, hx113_0, hx113_1, hx113_2, hx113_3, hx113_4⟩ := at_T32 HR0.out t107 p113 q113
  cases e113
  replace hx113_0 := pb HB.out hx113_0
  replace hx113_1 := pb HB.out hx113_1
  replace hx113_2 := pb HB.out hx113_2
  replace hx113_3 := pb HB.out hx113_3
  replace hx113_4 := pb HB.out hx113_4
  replace p113 := eq_true p113
  replace q113 := eq_true q113
  go_wp2
  go_meet
  case rel => exact ⟨_, ((a2 != ((rd_T32 l0 t107).f2))), zagbkp, H', ⟨zpacfg⟩, ⟨zkjhpm BK101.out⟩, ⟨zkmbdh⟩⟩
 case rest =>
  clear HC17
  try clear p1
  try clear q1
  try clear hx1
  try clear p2
  try clear c4b0
  try clear c4b1
  try clear c11b0
  try clear p11
  try clear q11
  try clear hx11
  try clear c19b0
  try clear c19b1
  try clear c19b2
  try clear c20b0
  try clear c21b0
  try clear hcz15_0
  try clear hcz15_1
  try clear hcz15_2
  try clear hcz8_0
  try clear hcz8_1
  try clear hcz8_2
  try clear hfz15_0
  try clear hfz15_1
  try clear hfz15_2
  try clear hfz8_0
  try clear hfz8_1
  try clear hfz8_2
  try clear hx113_0
  try clear hx113_1
  try clear hx113_2
  try clear hx113_3
  try clear hx113_4
  try clear p113
  try clear q113
  obtain ⟨kq, x28_16, rfl, HA, HJ16, BK101, HB⟩ := hcut
  cases kq with
  | zero => exact absurd HA.out (by simp [spec_l2Delete.j0])
  | succ kj16 =>
   have H := HA.out
   clear HA
   simp only [spec_l2Delete.j0] at H
   by_cases c22 : x28_16 = true
   ·
    subst c22
    rw [if_pos rfl] at H
    revert H
    refine ob3_ fun t114 t115 t116 A23 H => ?_
    (try dsimp only at H)
    simp only [Option.some.injEq, Prod.mk.injEq] at H
    obtain ⟨rfl, rfl, rfl⟩ := H
    go_wp2_with (first | (refine gc_ Tryd.func34 (some 29) #[.int .i64 7] ?_; (with_reducible refine (spec_l2Bad.calls 7 t114 t115 t116 _ A23.out).mono ?_); rintro e w24 ⟨v117, rfl, ho0, hb⟩; refine ⟨_, rfl, ?_⟩; have HO118 := aa (Kd.R_lower ho0 (below_size zkmbdh)); replace BK101 := aa (bb_ BK101.out hb); replace HB := aa (below_step zkmbdh hb); (try clear hb hk hi ho0); obtain ⟨hcz25_0, hcz25_1, hcz25_2, hfz25_0, hfz25_1, hfz25_2⟩ := blk3_ BK101.out; obtain ⟨Ao26, co26, eo26⟩ := Kd.R_slice HO118.out; subst eo26))
    refine bodyPost_ret (results_cell_row rfl _ _ gb101 28 #[.int .i64 t114, .string t115, .slice Ao26 t116.length co26] (0, 0) _ rfl (by (with_reducible repeat (first | refine blk_drewN ?_ _ | refine blk_drew ?_ | refine blk_alloc ?_ _)); refine blk_put (cs := #[.int .i64 t114, .string t115, .slice none 0 0]) ?_ 2 _ rfl; (with_reducible repeat (first | refine blk_drewN ?_ _ | refine blk_drew ?_ | refine blk_alloc ?_ _)); refine blk_put (cs := #[.int .i64 t114, .string (⟨#[]⟩ : ByteArray), .slice none 0 0]) ?_ 1 _ rfl; (with_reducible repeat (first | refine blk_drewN ?_ _ | refine blk_drew ?_ | refine blk_alloc ?_ _)); refine blk_put (cs := #[.int .i64 0, .string (⟨#[]⟩ : ByteArray), .slice none 0 0]) ?_ 0 _ rfl; (with_reducible repeat (first | refine blk_drewN ?_ _ | refine blk_drew ?_ | refine blk_alloc ?_ _)); exact BK101.out) Tryd.underlying28 rfl (by kernel_rfl)) rfl ?_
    exact ⟨_, zlhpib, by (with_reducible repeat (first | apply Kd.R_alloc | apply Kd.R_drewN | apply Kd.R_drew)); exact Kd.R_mono (Kd.R_far (p := ⟨gb101, 2, none⟩) (Kd.R_far (p := ⟨gb101, 1, none⟩) (Kd.R_far (p := ⟨gb101, 0, none⟩) (Kd.R_types HO118.out BK101.out (by decide)) (fun _ hk => hk.2) (.int .i64 t114)) (fun _ hk => hk.2) (.string t115)) (fun _ hk => hk.2) (.slice Ao26 t116.length co26)) (fun _ hk => trivial), zkmbdh⟩
   ·
    replace c22 := Bool.eq_false_iff.mpr c22
    subst c22
    rw [if_neg fT_] at H
    revert H
    refine obs_ fun t119 A27 H => ?_
    revert H
    refine itC_ (fun c28 H => ?_) fun c28 H => ?_
    ·
     have c28b0 : decide (0 < (t119.length : Int)) = true := decide_eq_true c28
     have c28b1 : decide (0 < t119.length) = true := decide_eq_true (by omega)
     clear c28
     revert H
     refine ob3_ fun t122 t123 t124 A29 H => ?_
     (try dsimp only at H)
     simp only [Option.some.injEq, Prod.mk.injEq] at H
     obtain ⟨rfl, rfl, rfl⟩ := H
     go_wp2_with (first | (refine gc_ Tryd.func67 (some 32) #[.slice A0 l0.length c0, .string a1] ?_; (with_reducible refine (spec_l2Kids.calls kj16 _ _ l0 a1 t119 _ zfmbgg HC0.out A27.out).mono ?_); rintro e w30 ⟨v120, rfl, ho0, hb⟩; refine ⟨_, rfl, ?_⟩; have HO121 := aa (Kd.R_lower ho0 (below_size zkmbdh)); replace BK101 := aa (bb_ BK101.out hb); replace HB := aa (below_step zkmbdh hb); (try clear hb hk hi ho0); obtain ⟨Ao31, co31, eo31⟩ := Kd.R_slice HO121.out; subst eo31) | (refine gc_ Tryd.func34 (some 35) #[.int .i64 8] ?_; (with_reducible refine (spec_l2Bad.calls 8 t122 t123 t124 _ A29.out).mono ?_); rintro e w32 ⟨v125, rfl, ho0, hb⟩; refine ⟨_, rfl, ?_⟩; replace HO121 := aa (Kd.R_below (zcaken HO121.out) hb); have HO126 := aa (Kd.R_lower ho0 (below_size zkmbdh)); replace BK101 := aa (bb_ BK101.out hb); replace HB := aa (below_step zkmbdh hb); (try clear hb hk hi ho0); obtain ⟨hcz33_0, hcz33_1, hcz33_2, hfz33_0, hfz33_1, hfz33_2⟩ := blk3_ BK101.out; obtain ⟨Ao34, co34, eo34⟩ := Kd.R_slice HO126.out; subst eo34))
     refine bodyPost_ret (results_cell_row rfl _ _ gb101 28 #[.int .i64 t122, .string t123, .slice Ao34 t124.length co34] (0, 0) _ rfl zmnjfm Tryd.underlying28 rfl (by kernel_rfl)) rfl ?_
     exact ⟨_, zlhpib, by (with_reducible repeat (first | apply Kd.R_alloc | apply Kd.R_drewN | apply Kd.R_drew)); exact Kd.R_mono (Kd.R_far (p := ⟨gb101, 2, none⟩) (Kd.R_far (p := ⟨gb101, 1, none⟩) (Kd.R_far (p := ⟨gb101, 0, none⟩) (Kd.R_types HO126.out BK101.out (by decide)) (fun _ hk => hk.2) (.int .i64 t122)) (fun _ hk => hk.2) (.string t123)) (fun _ hk => hk.2) (.slice Ao34 t124.length co34)) (fun _ hk => trivial), zkmbdh⟩
    have c28b0 : decide (0 < (t119.length : Int)) = false := decide_eq_false c28
    have c28b1 : decide (0 < t119.length) = false := decide_eq_false (by omega)
    clear c28
    revert H
    refine obl_ fun y127 Ny127 H => ?_
    revert H
    refine itG_ fun c35 H => ?_
    have c35b0 := eq_true c35
    have c35b1 := decide_eq_true c35
    clear c35
    revert H
    refine itG_ fun c36 H => ?_
    have c36b0 := eq_true c36
    have c36b1 := decide_eq_true c36
    clear c36
    revert H
    refine obl_ fun y130 Ny130 H => ?_
    revert H
    refine itG_ fun c37 H => ?_
    have LMc37 := aa c37
    clear c37
    revert H
    refine obl_ fun y134 Ny134 H => ?_
    obtain ⟨ji38, hji38⟩ : ∃ j_ : Int, (wrap64 (t107 + 1)) = j_ := ⟨_, rfl⟩
    first | rw [hji38] at H | simp only [hji38] at H
    (try rw [hji38] at A27)
    have hji38w : (IntKind.i64.wrap (t107 + 1)) = ji38 := (i64_w _).trans hji38
    revert H
    refine itG_ fun c39 H => ?_
    have c39b0 := eq_true c39
    have c39b1 := decide_eq_true c39
    clear c39
    revert H
    refine itG_ fun c40 H => ?_
    have c40b0 := eq_true c40
    have c40b1 := decide_eq_true c40
    clear c40
    revert H
    refine obl_ fun y137 Ny137 H => ?_
    revert H
    refine itG_ fun c41 H => ?_
    have LMc41 := aa c41
    clear c41
    obtain ⟨y141, hy141⟩ : ∃ y_ : List (S32), y_ = (y134 ++ y137) := ⟨_, rfl⟩
    replace H : (some (0, (⟨#[]⟩ : ByteArray), y141)) = some (r1, r2, r3) := by cases hy141; exact H
    have Ny141 := aa hy141
    clear hy141
    simp only [Option.some.injEq, Prod.mk.injEq] at H
    obtain ⟨rfl, rfl, rfl⟩ := H
    go_wp2_with (first | (refine gc_ Tryd.func67 (some 32) #[.slice A0 l0.length c0, .string a1] ?_; (with_reducible refine (spec_l2Kids.calls kj16 _ _ l0 a1 t119 _ zfmbgg HC0.out A27.out).mono ?_); rintro e w42 ⟨v120, rfl, ho0, hb⟩; refine ⟨_, rfl, ?_⟩; have HO121 := aa (Kd.R_lower ho0 (below_size zkmbdh)); replace BK101 := aa (bb_ BK101.out hb); replace HB := aa (below_step zkmbdh hb); (try clear hb hk hi ho0); obtain ⟨Ao43, co43, eo43⟩ := Kd.R_slice HO121.out; subst eo43) | ((with_reducible refine gate_dst (N := 36) rfl ?_); refine Kd.R_lit k32 _ 32 ?hg (N := 36) ?hd (xs := ([] : List (S32))) (inner := []) (ok := fun _ => True) (okp := fun _ => True) ?hr ?hp (fun _ hk => hk) trivial (Below.refl _ _) (Nat.le_refl _) (by simp) ?_; (case hd => rfl); (case hg => rfl); (case hr => exact zhlgcp); (case hp => exact (Reps.none _ _)); intro v128 w44 ho45 hb hg_ hnew_; clear hg_ hnew_; (first | rw [← Ny127.out] at ho45 | (simp only [Int.reduceToNat] at ho45; rw [← Ny127.out] at ho45)); replace HO121 := aa (Kd.R_below (zcaken HO121.out) hb); have HO129 := aa (Kd.R_lower ho45 (below_size zkmbdh)); replace BK101 := aa (bb_ BK101.out hb); replace HB := aa (below_step zkmbdh hb); clear hb ho45; have q46 : (t107 : Int) ≤ ((l0.length : Int) : Int) := of_decide_eq_true zgglam; obtain ⟨i046, hi046, _, hsz46, _⟩ := info_parts info32; have hroom46 : l0.length ≤ c0 := HC0.out; have hC46 : Kd.C k32 _ A0 l0.length l0 := HR0.out; have hcut46 := cut_to (P := Tryd.prog) 24 32 .i64 Tryd.underlying24 hi046 A0 l0.length c0 t107 (of_decide_eq_true zgglam) q46 hroom46; have hr46 := Kd.C_take (m := (t107 : Int).toNat) hC46 (by omega); have hy46 : y130.length = (t107 : Int).toNat := (by rw [Ny130.out, List.length_take]; omega); rw [← Ny130.out] at hr46; rw [← hy46] at hcut46; have HR133 := aa hr46; have HC133 := aa (show y130.length ≤ c0 from by omega); clear hr46 hC46 hroom46 hi046 hsz46; have KY46 := aa hy46; clear hy46; replace q46 := eq_true q46) | ((with_reducible refine gate_builtin (b := .append) (xs := #[.tmp 36, .tmp 39]) rfl ?_); at_builtin; refine Kd.R_append_rows k32 (w0 := w) w.heap.size rfl (.tmp 36) (.tmp 39) 24 32 (.agg #[(.string ⟨#[]⟩), (.int .i64 0), (.int .i64 0), (.int .i64 0), (.int .i64 0)]) 48 rfl Tryd.underlying24 info32 rfl (by decide) (by omega) v128 y127 y130 _ _ _ (fun _ => True) (fun _ => False) rfl rfl ?aO ?aR (fun _ _ h => h) (fun _ h => h.elim) ?aF ?aB ?aS ?aL ?_; (case aR => repeat (first | exact (Kd.C_below HR133.out HB.out) | (with_reducible refine Kd.C_alloc ?_ _) | (with_reducible refine Kd.C_drewN ?_ _) | (with_reducible refine Kd.C_drew ?_))); (case aB => exact zkmbdh); (case aF => exact (fun _ _ => trivial)); (case aO => exact (zcaken HO129.out)); (case aS => exact (below_size zkmbdh)); (case aL => have := LMc37.out; omega); intro v135 w47 ho hb hg hat; rw [← Ny134.out] at ho; replace BK101 := aa (blk_grown (g := gb101) (o := .cells #[.int .i64 0, .string (⟨#[]⟩ : ByteArray), .slice none 0 0] 28 (0, 0)) (zkjhpm BK101.out) hg (Kd.R_ne HO129.out BK101.out (by decide))); replace HO121 := aa (Kd.R_over' (zcaken HO121.out) (Kd.R_typed (zcaken HO129.out)) (by decide) hg); replace HB := aa (hb); have HO136 := aa (ho); clear HO129; clear ho hb hg hat; have q48 : ((ji38) : Int) ≤ ((l0.length : Int) : Int) := of_decide_eq_true zgglam; obtain ⟨i048, hi048, _, hsz48, _⟩ := info_parts info32; have hroom48 : l0.length ≤ c0 := HC0.out; have hC48 : Kd.C k32 _ A0 l0.length l0 := HR0.out; have q048 : (0 : Int) ≤ ((ji38) : Int) := of_decide_eq_true zgglam; have hcut48 := cut_from (P := Tryd.prog) 24 32 .i64 Tryd.underlying24 hi048 5 hsz48 A0 l0.length c0 (ji38) q048 q48; have hr48 := Kd.C_drop (m := ((ji38) : Int).toNat) (c := c0) hC48 (by omega) hroom48; obtain ⟨A48, hA48⟩ : ∃ A1, A1 = (if c0 = ((ji38) : Int).toNat then A0 else (A0 : Option Addr).map (·.add (((ji38) : Int).toNat * 5))) := ⟨_, rfl⟩; obtain ⟨c48, hc48⟩ : ∃ c1, c1 = c0 - ((ji38) : Int).toNat := ⟨_, rfl⟩; have hy48 : y137.length = l0.length - ((ji38) : Int).toNat := (by rw [Ny137.out, List.length_drop] <;> omega); rw [show (l0).drop ((ji38) : Int).toNat = y137 from Ny137.out.symm] at hr48; replace hr48 : Kd.C k32 _ A48 y137.length y137 := (by rw [hA48]; exact hr48); rw [← hy48, ← hA48, ← hc48] at hcut48; have HR140 := aa hr48; have HC140 := aa (show y137.length ≤ c48 from by rw [hy48, hc48]; exact Nat.sub_le_sub_right hroom48 _); clear hr48 hC48 hroom48 hi048 hsz48 hc48; have KY48 := aa hy48; have KA48 := aa hA48; clear hy48 hA48; replace q48 := eq_true q48) | ((with_reducible refine gate_builtin (b := .append) (xs := #[.tmp 41, .tmp 45]) rfl ?_); at_builtin; refine Kd.R_append_rows k32 (w0 := w) w.heap.size rfl (.tmp 41) (.tmp 45) 24 32 (.agg #[(.string ⟨#[]⟩), (.int .i64 0), (.int .i64 0), (.int .i64 0), (.int .i64 0)]) 48 rfl Tryd.underlying24 info32 rfl (by decide) (by omega) v135 y134 y137 _ _ _ (fun _ => True) (fun _ => False) rfl rfl ?aO ?aR (fun _ _ h => h) (fun _ h => h.elim) ?aF ?aB ?aS ?aL ?_; (case aR => repeat (first | exact (Kd.C_below HR140.out HB.out) | (with_reducible refine Kd.C_alloc ?_ _) | (with_reducible refine Kd.C_drewN ?_ _) | (with_reducible refine Kd.C_drew ?_))); (case aB => exact zkmbdh); (case aF => exact (fun _ _ => trivial)); (case aO => exact (zcaken HO136.out)); (case aS => exact (below_size zkmbdh)); (case aL => have := LMc41.out; omega); intro v142 w49 ho hb hg hat; rw [← Ny141.out] at ho; replace BK101 := aa (blk_grown (g := gb101) (o := .cells #[.int .i64 0, .string (⟨#[]⟩ : ByteArray), .slice none 0 0] 28 (0, 0)) (zkjhpm BK101.out) hg (Kd.R_ne HO136.out BK101.out (by decide))); replace HO121 := aa (Kd.R_over' (zcaken HO121.out) (Kd.R_typed (zcaken HO136.out)) (by decide) hg); replace HB := aa (hb); have HO143 := aa (ho); clear HO136; clear ho hb hg hat; obtain ⟨Ao50, co50, eo50⟩ := Kd.R_slice HO143.out; subst eo50; obtain ⟨hcz51_0, hcz51_1, hcz51_2, hfz51_0, hfz51_1, hfz51_2⟩ := blk3_ BK101.out))
    refine bodyPost_ret (results_cell_row rfl _ _ gb101 28 #[.int .i64 0, .string (⟨#[]⟩ : ByteArray), .slice Ao50 y141.length co50] (0, 0) _ rfl zkhiid Tryd.underlying28 rfl (by kernel_rfl)) rfl ?_
    exact ⟨_, by first | rfl | (simp [errW_none, errW_some] <;> rfl) | (simp only [← hji38]; first | rfl | (simp [errW_none, errW_some] <;> rfl)) | (simp [*, errW_none, errW_some] <;> rfl), by (with_reducible repeat (first | apply Kd.R_alloc | apply Kd.R_drewN | apply Kd.R_drew)); exact Kd.R_mono (Kd.R_far (p := ⟨gb101, 2, none⟩) (Kd.R_far (p := ⟨gb101, 1, none⟩) (Kd.R_far (p := ⟨gb101, 0, none⟩) (Kd.R_types HO143.out BK101.out (by decide)) (fun _ hk => hk.2) (.int .i64 0)) (fun _ hk => hk.2) (.string (⟨#[]⟩ : ByteArray))) (fun _ hk => hk.2) (.slice Ao50 y141.length co50)) (fun _ hk => trivial), zkmbdh⟩
def spec_l1Name.l0 : Nat → ByteArray → Int → Option (Bool)
 | 0, _, _ => none
 | k + 1, x0, x3 => if x3 < (x0.size : Int) then (if 0 ≤ x3 then (if (bt x0 x3) < 97 then (if (bt x0 x3) < 48 then (some false) else (if (bt x0 x3) > 57 then (some false) else (spec_l1Name.l0 k x0 (wrap64 (x3 + 1))))) else (if (bt x0 x3) > 122 then (if (bt x0 x3) < 48 then (some false) else (if (bt x0 x3) > 57 then (some false) else (spec_l1Name.l0 k x0 (wrap64 (x3 + 1))))) else (spec_l1Name.l0 k x0 (wrap64 (x3 + 1))))) else (none)) else ((spec_l1In.f (x0.size : Int) 1 8).bind fun t101 => (some t101))
def spec_l1Name.f (k : Nat) (a0 : ByteArray) : Option (Bool) := spec_l1Name.l0 k a0 0
theorem spec_l1Name.mono_l : ∀ k, (∀ y0 y1, LeO (spec_l1Name.l0 k y0 y1) (spec_l1Name.l0 (k + 1) y0 y1))
 | 0 => fun _ _ r h => by simp [spec_l1Name.l0] at h
 | k + 1 => by
  have ih0 := spec_l1Name.mono_l k
  ·
   intro y0 y1
   unfold spec_l1Name.l0
   with_reducible repeat' first | exact ih0 _ _ | exact LeO.refl _ | exact LeO.none _ | refine LeO.ite ?_ ?_ | refine LeO.bind ?_ (fun _ => ?_)
theorem spec_l1Name.mono : ∀ a0 k, LeO (spec_l1Name.f k a0) (spec_l1Name.f (k + 1) a0) := by
 intro a0 k
 have ih0 := spec_l1Name.mono_l k
 unfold spec_l1Name.f
 with_reducible repeat' first | exact ih0 _ _ | exact LeO.refl _ | exact LeO.none _ | refine LeO.ite ?_ ?_ | refine LeO.bind ?_ (fun _ => ?_)
theorem spec_l1Name.calls (k : Nat) (a0 : ByteArray) (r : Bool) (w : World) (h : spec_l1Name.f k a0 = some r) :
  Calls Tryd.prog 56 #[.string a0] w fun e w' => e = .returned (.bool r) ∧ Drawn0 w w' := by
 have H : (spec_l1Name.l0 k a0 0) = some r := h
 clear h
 have H' := aa H
 clear H
 go_enter Tryd.func56, Tryd.ntmps56
 go_wp2
 go_loopg [3] k (fun kq v3 w' => ∃ (x3_1 : Int), v3 = .int .i64 x3_1 ∧ Aside0 (spec_l1Name.l0 kq a0 x3_1 = some r) ∧ Aside0 (kq ≤ k) ∧ Drawn0 w w')
 case atStart => exact ⟨(0), zagbkp, H', ⟨Nat.le_refl _⟩, ziajdh⟩
 case round =>
  clear H'
  obtain ⟨x3_1, rfl, HA, HK1, ⟨m1, rfl⟩⟩ := hrel
  cases gk with
  | zero => exact absurd HA.out (by simp [spec_l1Name.l0])
  | succ k1 =>
   have H := HA.out
   clear HA
   simp only [spec_l1Name.l0] at H
   revert H
   refine itD_ (fun c2b0 H => ?_) fun c2b0 H => ?_
   ·
    revert H
    refine itH_ fun c3b0 H => ?_
    revert H
    refine itD_ (fun c5b0 H => ?_) fun c5b0 H => ?_
    ·
     revert H
     refine itD_ (fun c7b0 H => ?_) fun c7b0 H => ?_
     ·
      obtain rfl := Option.some.inj H
      have p4 : 0 ≤ (x3_1 : Int) := of_decide_eq_true zgglam
      have q4 : x3_1 < (a0.size : Int) := of_decide_eq_true zgglam
      have hx4 := bt_at a0 x3_1
      replace p4 := eq_true p4
      replace q4 := eq_true q4
      have p6 : 0 ≤ (x3_1 : Int) := of_decide_eq_true zgglam
      have q6 : x3_1 < (a0.size : Int) := of_decide_eq_true zgglam
      have hx6 := bt_at a0 x3_1
      replace p6 := eq_true p6
      replace q6 := eq_true q6
      go_wp2
      go_ret
      exact ⟨zagbkp, ziajdh⟩
     revert H
     refine itC_ (fun c9 H => ?_) fun c9 H => ?_
     ·
      have c9b0 : decide (57 < (bt a0 x3_1)) = true := decide_eq_true c9
      clear c9
      obtain rfl := Option.some.inj H
      have p4 : 0 ≤ (x3_1 : Int) := of_decide_eq_true zgglam
      have q4 : x3_1 < (a0.size : Int) := of_decide_eq_true zgglam
      have hx4 := bt_at a0 x3_1
      replace p4 := eq_true p4
      replace q4 := eq_true q4
      have p6 : 0 ≤ (x3_1 : Int) := of_decide_eq_true zgglam
      have q6 : x3_1 < (a0.size : Int) := of_decide_eq_true zgglam
      have hx6 := bt_at a0 x3_1
      replace p6 := eq_true p6
      replace q6 := eq_true q6
      have p8 : 0 ≤ (x3_1 : Int) := of_decide_eq_true zgglam
      have q8 : x3_1 < (a0.size : Int) := of_decide_eq_true zgglam
      have hx8 := bt_at a0 x3_1
      replace p8 := eq_true p8
      replace q8 := eq_true q8
      go_wp2
      go_ret
      exact ⟨zagbkp, ziajdh⟩
     have c9b0 : decide (57 < (bt a0 x3_1)) = false := decide_eq_false c9
     clear c9
     have H' := aa H
     clear H
     have p4 : 0 ≤ (x3_1 : Int) := of_decide_eq_true zgglam
     have q4 : x3_1 < (a0.size : Int) := of_decide_eq_true zgglam
     have hx4 := bt_at a0 x3_1
     replace p4 := eq_true p4
     replace q4 := eq_true q4
     have p6 : 0 ≤ (x3_1 : Int) := of_decide_eq_true zgglam
     have q6 : x3_1 < (a0.size : Int) := of_decide_eq_true zgglam
     have hx6 := bt_at a0 x3_1
     replace p6 := eq_true p6
     replace q6 := eq_true q6
     have p8 : 0 ≤ (x3_1 : Int) := of_decide_eq_true zgglam
     have q8 : x3_1 < (a0.size : Int) := of_decide_eq_true zgglam
     have hx8 := bt_at a0 x3_1
     replace p8 := eq_true p8
     replace q8 := eq_true q8
     go_wp2
     go_roundg k1
     case measure => have := HK1.out; omega
     case rel => exact ⟨(wrap64 (x3_1 + 1)), zagbkp, H', ⟨by have := HK1.out; omega⟩, ziajdh⟩
    revert H
    refine itC_ (fun c11 H => ?_) fun c11 H => ?_
    ·
     have c11b0 : decide (122 < (bt a0 x3_1)) = true := decide_eq_true c11
     clear c11
     revert H
     refine itD_ (fun c13b0 H => ?_) fun c13b0 H => ?_
     ·
      obtain rfl := Option.some.inj H
      have p4 : 0 ≤ (x3_1 : Int) := of_decide_eq_true zgglam
      have q4 : x3_1 < (a0.size : Int) := of_decide_eq_true zgglam
      have hx4 := bt_at a0 x3_1
      replace p4 := eq_true p4
      replace q4 := eq_true q4
      have p10 : 0 ≤ (x3_1 : Int) := of_decide_eq_true zgglam
      have q10 : x3_1 < (a0.size : Int) := of_decide_eq_true zgglam
      have hx10 := bt_at a0 x3_1
      replace p10 := eq_true p10
      replace q10 := eq_true q10
      have p12 : 0 ≤ (x3_1 : Int) := of_decide_eq_true zgglam
      have q12 : x3_1 < (a0.size : Int) := of_decide_eq_true zgglam
      have hx12 := bt_at a0 x3_1
      replace p12 := eq_true p12
      replace q12 := eq_true q12
      go_wp2
      go_ret
      exact ⟨zagbkp, ziajdh⟩
     revert H
     refine itC_ (fun c15 H => ?_) fun c15 H => ?_
     ·
      have c15b0 : decide (57 < (bt a0 x3_1)) = true := decide_eq_true c15
      clear c15
      obtain rfl := Option.some.inj H
      have p4 : 0 ≤ (x3_1 : Int) := of_decide_eq_true zgglam
      have q4 : x3_1 < (a0.size : Int) := of_decide_eq_true zgglam
      have hx4 := bt_at a0 x3_1
      replace p4 := eq_true p4
      replace q4 := eq_true q4
      have p10 : 0 ≤ (x3_1 : Int) := of_decide_eq_true zgglam
      have q10 : x3_1 < (a0.size : Int) := of_decide_eq_true zgglam
      have hx10 := bt_at a0 x3_1
      replace p10 := eq_true p10
      replace q10 := eq_true q10
      have p12 : 0 ≤ (x3_1 : Int) := of_decide_eq_true zgglam
      have q12 : x3_1 < (a0.size : Int) := of_decide_eq_true zgglam
      have hx12 := bt_at a0 x3_1
      replace p12 := eq_true p12
      replace q12 := eq_true q12
      have p14 : 0 ≤ (x3_1 : Int) := of_decide_eq_true zgglam
      have q14 : x3_1 < (a0.size : Int) := of_decide_eq_true zgglam
      have hx14 := bt_at a0 x3_1
      replace p14 := eq_true p14
      replace q14 := eq_true q14
      go_wp2
      go_ret
      exact ⟨zagbkp, ziajdh⟩
     have c15b0 : decide (57 < (bt a0 x3_1)) = false := decide_eq_false c15
     clear c15
     have H' := aa H
     clear H
     have p4 : 0 ≤ (x3_1 : Int) := of_decide_eq_true zgglam
     have q4 : x3_1 < (a0.size : Int) := of_decide_eq_true zgglam
     have hx4 := bt_at a0 x3_1
     replace p4 := eq_true p4
     replace q4 := eq_true q4
     have p10 : 0 ≤ (x3_1 : Int) := of_decide_eq_true zgglam
     have q10 : x3_1 < (a0.size : Int) := of_decide_eq_true zgglam
     have hx10 := bt_at a0 x3_1
     replace p10 := eq_true p10
     replace q10 := eq_true q10
     have p12 : 0 ≤ (x3_1 : Int) := of_decide_eq_true zgglam
     have q12 : x3_1 < (a0.size : Int) := of_decide_eq_true zgglam
     have hx12 := bt_at a0 x3_1
     replace p12 := eq_true p12
     replace q12 := eq_true q12
     have p14 : 0 ≤ (x3_1 : Int) := of_decide_eq_true zgglam
     have q14 : x3_1 < (a0.size : Int) := of_decide_eq_true zgglam
     have hx14 := bt_at a0 x3_1
     replace p14 := eq_true p14
     replace q14 := eq_true q14
     go_wp2
     go_roundg k1
     case measure => have := HK1.out; omega
     case rel => exact ⟨(wrap64 (x3_1 + 1)), zagbkp, H', ⟨by have := HK1.out; omega⟩, ziajdh⟩
    have c11b0 : decide (122 < (bt a0 x3_1)) = false := decide_eq_false c11
    clear c11
    have H' := aa H
    clear H
    have p4 : 0 ≤ (x3_1 : Int) := of_decide_eq_true zgglam
    have q4 : x3_1 < (a0.size : Int) := of_decide_eq_true zgglam
    have hx4 := bt_at a0 x3_1
    replace p4 := eq_true p4
    replace q4 := eq_true q4
    have p10 : 0 ≤ (x3_1 : Int) := of_decide_eq_true zgglam
    have q10 : x3_1 < (a0.size : Int) := of_decide_eq_true zgglam
    have hx10 := bt_at a0 x3_1
    replace p10 := eq_true p10
    replace q10 := eq_true q10
    go_wp2
    go_roundg k1
    case measure => have := HK1.out; omega
    case rel => exact ⟨(wrap64 (x3_1 + 1)), zagbkp, H', ⟨by have := HK1.out; omega⟩, ziajdh⟩
   ·
    revert H
    refine obs_ fun t101 A16 H => ?_
    obtain rfl := Option.some.inj H
    go_wp2_with (first | (refine gc_ Tryd.func57 (some 34) #[.int .i64 (a0.size : Int), .int .i64 1, .int .i64 8] ?_; (with_reducible refine (spec_l1In.calls (a0.size : Int) 1 8 t101 _ A16.out).mono ?_); rintro e w' ⟨rfl, ⟨nd, rfl⟩⟩; refine ⟨_, rfl, ?_⟩))
    go_ret
    exact ⟨zagbkp, ziajdh⟩
def spec_l1Digits.f : Nat → Int → Option (ByteArray)
 | 0, _ => none
 | k + 1, a0 => if a0 < 0 then ((spec_l1Digits.f k (wrap64 (-a0))).bind fun t101 => (if 1 + t101.size ≤ 9223372036854775807 then (some ((⟨#[45]⟩ : ByteArray) ++ t101)) else (none))) else (if a0 < 10 then (some (strOfNums (([(wrap64 (48 + a0)) % 256] : List Int)))) else ((spec_l1Digits.f k (wrap64 (Int.tdiv a0 10))).bind fun t105 => ((some (([(wrap64 (48 + (Int.tmod a0 10))) % 256] : List Int) : List Int)).bind fun y106 => (if t105.size + (strOfNums y106).size ≤ 9223372036854775807 then (some (t105 ++ (strOfNums y106))) else (none)))))
theorem spec_l1Digits.mono_l : ∀ k, (∀ y0, LeO (spec_l1Digits.f k y0) (spec_l1Digits.f (k + 1) y0))
 | 0 => fun _ r h => by simp [spec_l1Digits.f] at h
 | k + 1 => by
  have ih0 := spec_l1Digits.mono_l k
  ·
   intro y0
   unfold spec_l1Digits.f
   with_reducible repeat' first | exact ih0 _ | exact LeO.refl _ | exact LeO.none _ | refine LeO.ite ?_ ?_ | refine LeO.bind ?_ (fun _ => ?_)
theorem spec_l1Digits.mono : ∀ a0 k, LeO (spec_l1Digits.f k a0) (spec_l1Digits.f (k + 1) a0) := by
 intro a0 k
 have ih0 := spec_l1Digits.mono_l k
 exact ih0 a0
def spec_l1Digits.T5 : Bool × List (List Nat × List Nat) := (true, [([], []), ([0], [0]), ([1], [1]), ([], []), ([3], [3]), ([4], [4]), ([5], [5]), ([6], [6]), ([7], [7]), ([2, 8], [2, 8]), ([9, 2, 0, 1, 2, 3, 4, 5, 6, 7, 8, 9], [9])])
def spec_l1Digits.B5 : List Nat := [0, 1, 3, 0, 8, 24, 56, 120, 248, 511, 1023]
theorem spec_l1Digits.tab5 : rtab .any (opsOf Tryd.f78 5) = spec_l1Digits.T5 := by kernel_rfl
theorem spec_l1Digits.bits5 : waitsOk spec_l1Digits.T5.2 spec_l1Digits.B5 = true := by kernel_rfl
theorem spec_l1Digits.calls (k : Nat) : ∀ (a0 : Int) (r : ByteArray) (w : World) (h : spec_l1Digits.f k a0 = some r),
  Calls Tryd.prog 78 #[.int .i64 a0] w fun e w' => e = .returned (.string r) ∧ Below w.heap.size w w' := by
 induction k using Nat.strongRecOn with
 | _ k ih =>
 intro a0 r w h
 cases k with
 | zero => exact absurd h (by simp [spec_l1Digits.f])
 | succ k =>
 simp only [spec_l1Digits.f] at h
 have HB := aa (Below.refl w.heap.size w)
 have H : (if a0 < 0 then ((spec_l1Digits.f k (wrap64 (-a0))).bind fun t101 => (if 1 + t101.size ≤ 9223372036854775807 then (some ((⟨#[45]⟩ : ByteArray) ++ t101)) else (none))) else (if a0 < 10 then (some (strOfNums (([(wrap64 (48 + a0)) % 256] : List Int)))) else ((spec_l1Digits.f k (wrap64 (Int.tdiv a0 10))).bind fun t105 => ((some (([(wrap64 (48 + (Int.tmod a0 10))) % 256] : List Int) : List Int)).bind fun y106 => (if t105.size + (strOfNums y106).size ≤ 9223372036854775807 then (some (t105 ++ (strOfNums y106))) else (none)))))) = some r := h
 clear h
 revert H
 refine itD_ (fun c2b0 H => ?_) fun c2b0 H => ?_
 ·
  revert H
  refine obs_ fun t101 A3 H => ?_
  revert H
  refine itG_ fun c4 H => ?_
  have c4b0 := eq_true c4
  have c4b1 := decide_eq_true c4
  try have c4b2 : (9223372036854775807 < 1 + t101.size) = False := eq_false (Nat.not_lt.2 c4)
  try (have c4b3 := c4b2; simp only [ByteArray.size_append] at c4b3)
  obtain rfl := Option.some.inj H
  go_enter Tryd.func78, Tryd.ntmps78
  go_wp2_with (first | (refine gc_ Tryd.func78 (some 7) #[.int .i64 (wrap64 (-a0))] ?_; (with_reducible refine (ih k (by omega) (wrap64 (-a0)) t101 _ A3.out).mono ?_); rintro e w5 ⟨rfl, hb⟩; refine ⟨_, rfl, ?_⟩; replace HB := aa (below_step zjjbob hb); (try clear hb hk hi)))
  go_ret
  exact ⟨zlhpib, zjjbob⟩
 revert H
 refine itD_ (fun c6b0 H => ?_) fun c6b0 H => ?_
 ·
  obtain ⟨y102, hy102⟩ : ∃ y_ : List Int, y_ = (([(wrap64 (48 + a0)) % 256] : List Int)) := ⟨_, rfl⟩
  replace H : (some (strOfNums y102)) = some r := by cases hy102; exact H
  have Ny102 := aa hy102
  clear hy102
  obtain rfl := Option.some.inj H
  go_enter Tryd.func78, Tryd.ntmps78
  go_wp2_with (first | ((with_reducible refine gate_dst (N := 14) rfl ?_); refine Kd.R_lit (Kd.int .u8) _ 5 ?hg (N := 14) ?hd (xs := ([(wrap64 (48 + a0)) % 256] : List Int)) (inner := [.int .u8 ((wrap64 (48 + a0)) % 256)]) (ok := fun _ => True) (okp := fun _ => True) ?hr ?hp (fun _ hk => hk) trivial (Below.refl _ _) (Nat.le_refl _) (by simp) ?_; (case hd => rfl); (case hg => rfl); (case hr => exact zhlgcp); (case hp => exact (Reps.one (show Kd.M (Kd.int .u8) _ _ _ ((wrap64 (48 + a0)) % 256) [.int .u8 ((wrap64 (48 + a0)) % 256)] from rfl) (Reps.none _ _))); intro v103 w7 ho8 hb hg_ hnew_; clear hg_ hnew_; (first | rw [← Ny102.out] at ho8 | (simp only [Int.reduceToNat] at ho8; rw [← Ny102.out] at ho8)); have HO104 := aa (Kd.R_lower ho8 (below_size zjjbob)); replace HB := aa (below_step zjjbob hb); clear hb ho8; have hcv9 := own_string (P := Tryd.prog) Tryd.underlying22 Tryd.underlying5 Tryd.underlying9 (Kd.own_of_R HO104.out)))
  go_ret
  exact ⟨zlhpib, zjjbob⟩
 revert H
 refine obs_ fun t105 A10 H => ?_
 revert H
 refine obl_ fun y106 Ny106 H => ?_
 revert H
 refine itG_ fun c11 H => ?_
 have c11b0 := eq_true c11
 have c11b1 := decide_eq_true c11
 try have c11b2 : (9223372036854775807 < t105.size + (strOfNums y106).size) = False := eq_false (Nat.not_lt.2 c11)
 try (have c11b3 := c11b2; simp only [ByteArray.size_append] at c11b3)
 obtain rfl := Option.some.inj H
 go_enter Tryd.func78, Tryd.ntmps78
 try go_wp2
 replace HB := aa (below_drew1 HB.out)
 refine start_ (n := 11) (S := fun w' => True) (ds := []) #[false, false, false, false, false, false, false, false, false, false, false] (by kernel_rfl) rfl rfl trivial (fun hHeld => ?_); refine with_tabW spec_l1Digits.tab5 spec_l1Digits.bits5 (fun HT_ HW_ => ?_)
 generalize w.drew = w12 at HB hHeld ⊢
 refine pu0 0 16 ?_
 refine pu0 1 17 ?_
 refine pu0 3 19 ?_
 refine pu0 4 20 ?_
 refine pu0 5 21 ?_
 refine pu0 6 22 ?_
 refine join_ (σ := Value) 2 #[true, true, true, true, true, true, true, true, true, false, false] (fun s_ => [(18, .string t105), (23, s_), (24, .string (strOfNums y106))]) (fun s_ w' => (Kd.R (Kd.int .u8) 5 w' w.heap.size (fun _ => True) s_ y106) ∧ (Below w.heap.size w w')) ?_ ?_
 rotate_left
 ·
  intro hCont
  refine two_ (i := 2) (j := 7) (Ni := some 18) (Nj := some 23) #[true, true, true, true, true, true, true, false, false, false, false] #[true, true, false, true, true, true, true, true, false, false, false] rfl rfl rfl rfl (two_of HT_.out (by kernel_rfl)) (by decide) (by decide) (fun K hK => ?_) (fun K hK => ?_)
  ·
   skip
   refine goes_ Tryd.func78 (by kernel_rfl) rfl #[.int .i64 (wrap64 (Int.tdiv a0 10))] (by rfl) rfl rfl zjnmae ?_
   with_reducible refine (ih k (by omega) (wrap64 (Int.tdiv a0 10)) t105 _ A10.out).mono ?_
   rintro e w13 ⟨rfl, hb⟩
   refine ⟨_, rfl, ?_⟩
   replace HB := aa (below_step zjjbob hb)
   (try clear hb)
   (try clear hb2)
   (try clear hk)
   (try clear hi)
   refine hK.out _ _ trivial (fun hHeld => ?_)
   clear hK K
   refine norm_ (a' := ?_) ?_ ?_
   rotate_left
   ·
    show Act.put _ (some 18) _ = _
    simp only [Act.put, List.setIfInBounds_toArray, List.set_cons_zero, List.set_cons_succ, i64_w, i32_w]
    rfl
   refine one_ (i := 7) (N := some 23) #[true, true, true, true, true, true, true, true, false, false, false] rfl rfl (one_of HT_.out (by kernel_rfl)) (by decide) (fun K hK => ?_)
   refine Kd.R_lit_step (Kd.int .u8) _ 5 ?hg (N := 23) ?hd (xs := ([(wrap64 (48 + (Int.tmod a0 10))) % 256] : List Int)) (inner := [.int .u8 ((wrap64 (48 + (Int.tmod a0 10))) % 256)]) (ok := fun _ => True) (okp := fun _ => True) ?hr ?hp (fun _ hk => hk) trivial (Below.refl _ _) (Nat.le_refl _) (by simp) ?_; (case hd => rfl); (case hg => rfl); (case hr => exact zhlgcp); (case hp => exact zoecic)
   intro v107 w14 ho15 hb hg_ hnew_
   clear hg_ hnew_
   (first | rw [← Ny106.out] at ho15 | (simp only [Int.reduceToNat] at ho15; rw [← Ny106.out] at ho15))
   have HO108 := aa (Kd.R_lower ho15 (below_size zjjbob))
   replace HB := aa (below_step zjjbob hb)
   clear hb ho15
   refine hK.out _ _ trivial (fun hHeld => ?_)
   clear hK K
   refine norm_ (a' := ?_) ?_ ?_
   rotate_left
   ·
    show Act.put _ (some 23) _ = _
    simp only [Act.put, List.setIfInBounds_toArray, List.set_cons_zero, List.set_cons_succ, i64_w, i32_w]
    rfl
   refine one_ (i := 8) (N := some 24) #[true, true, true, true, true, true, true, true, true, false, false] rfl rfl (one_of HT_.out (by kernel_rfl)) (by decide) (fun K hK => ?_)
   have hcv16 := own_string (P := Tryd.prog) Tryd.underlying22 Tryd.underlying5 Tryd.underlying9 (Kd.own_of_R HO108.out)
   refine value_ (w1 := ?_) (v := ?_) (by rfl) rfl ?_ ?_
   rotate_left 2
   ·
    go_simp
    constructor
    ·
     rfl
    rfl
   clear hcv16
   refine hK.out _ _ trivial (fun hHeld => ?_)
   clear hK K
   refine norm_ (a' := ?_) ?_ ?_
   rotate_left
   ·
    show Act.put _ (some 24) _ = _
    simp only [Act.put, List.setIfInBounds_toArray, List.set_cons_zero, List.set_cons_succ, i64_w, i32_w]
    rfl
   exact norm_ zgldpg (hCont (v107) _ ⟨(zcaken HO108.out), zjjbob⟩)
  skip
  refine Kd.R_lit_step (Kd.int .u8) _ 5 ?hg (N := 23) ?hd (xs := ([(wrap64 (48 + (Int.tmod a0 10))) % 256] : List Int)) (inner := [.int .u8 ((wrap64 (48 + (Int.tmod a0 10))) % 256)]) (ok := fun _ => True) (okp := fun _ => True) ?hr ?hp (fun _ hk => hk) trivial (Below.refl _ _) (Nat.le_refl _) (by simp) ?_; (case hd => rfl); (case hg => rfl); (case hr => exact zhlgcp); (case hp => exact zoecic)
  intro v107 w13 ho14 hb hg_ hnew_
  clear hg_ hnew_
  (first | rw [← Ny106.out] at ho14 | (simp only [Int.reduceToNat] at ho14; rw [← Ny106.out] at ho14))
  have HO108 := aa (Kd.R_lower ho14 (below_size zjjbob))
  replace HB := aa (below_step zjjbob hb)
  clear hb ho14
  refine hK.out _ _ trivial (fun hHeld => ?_)
  clear hK K
  refine norm_ (a' := ?_) ?_ ?_
  rotate_left
  ·
   show Act.put _ (some 23) _ = _
   simp only [Act.put, List.setIfInBounds_toArray, List.set_cons_zero, List.set_cons_succ, i64_w, i32_w]
   rfl
  refine two_ (i := 2) (j := 8) (Ni := some 18) (Nj := some 24) #[true, true, true, true, true, true, true, true, false, false, false] #[true, true, false, true, true, true, true, true, true, false, false] rfl rfl rfl rfl (two_of HT_.out (by kernel_rfl)) (by decide) (by decide) (fun K hK => ?_) (fun K hK => ?_)
  ·
   skip
   refine goes_ Tryd.func78 (by kernel_rfl) rfl #[.int .i64 (wrap64 (Int.tdiv a0 10))] (by rfl) rfl rfl zjnmae ?_
   with_reducible refine (ih k (by omega) (wrap64 (Int.tdiv a0 10)) t105 _ A10.out).mono ?_
   rintro e w15 ⟨rfl, hb⟩
   refine ⟨_, rfl, ?_⟩
   replace HO108 := aa (Kd.R_below (zcaken HO108.out) hb)
   replace HB := aa (below_step zjjbob hb)
   (try clear hb)
   (try clear hb2)
   (try clear hk)
   (try clear hi)
   refine hK.out _ _ trivial (fun hHeld => ?_)
   clear hK K
   refine norm_ (a' := ?_) ?_ ?_
   rotate_left
   ·
    show Act.put _ (some 18) _ = _
    simp only [Act.put, List.setIfInBounds_toArray, List.set_cons_zero, List.set_cons_succ, i64_w, i32_w]
    rfl
   refine one_ (i := 8) (N := some 24) #[true, true, true, true, true, true, true, true, true, false, false] rfl rfl (one_of HT_.out (by kernel_rfl)) (by decide) (fun K hK => ?_)
   have hcv16 := own_string (P := Tryd.prog) Tryd.underlying22 Tryd.underlying5 Tryd.underlying9 (Kd.own_of_R HO108.out)
   refine value_ (w1 := ?_) (v := ?_) (by rfl) rfl ?_ ?_
   rotate_left 2
   ·
    go_simp
    constructor
    ·
     rfl
    rfl
   clear hcv16
   refine hK.out _ _ trivial (fun hHeld => ?_)
   clear hK K
   refine norm_ (a' := ?_) ?_ ?_
   rotate_left
   ·
    show Act.put _ (some 24) _ = _
    simp only [Act.put, List.setIfInBounds_toArray, List.set_cons_zero, List.set_cons_succ, i64_w, i32_w]
    rfl
   exact norm_ zgldpg (hCont (v107) _ ⟨(zcaken HO108.out), zjjbob⟩)
  skip
  have hcv15 := own_string (P := Tryd.prog) Tryd.underlying22 Tryd.underlying5 Tryd.underlying9 (Kd.own_of_R HO108.out)
  refine value_ (w1 := ?_) (v := ?_) (by rfl) rfl ?_ ?_
  rotate_left 2
  ·
   go_simp
   constructor
   ·
    rfl
   rfl
  clear hcv15
  refine hK.out _ _ trivial (fun hHeld => ?_)
  clear hK K
  refine norm_ (a' := ?_) ?_ ?_
  rotate_left
  ·
   show Act.put _ (some 24) _ = _
   simp only [Act.put, List.setIfInBounds_toArray, List.set_cons_zero, List.set_cons_succ, i64_w, i32_w]
   rfl
  refine one_ (i := 2) (N := some 18) #[true, true, true, true, true, true, true, true, true, false, false] rfl rfl (one_of HT_.out (by kernel_rfl)) (by decide) (fun K hK => ?_)
  refine goes_ Tryd.func78 (by kernel_rfl) rfl #[.int .i64 (wrap64 (Int.tdiv a0 10))] (by rfl) rfl rfl zjnmae ?_
  with_reducible refine (ih k (by omega) (wrap64 (Int.tdiv a0 10)) t105 _ A10.out).mono ?_
  rintro e w16 ⟨rfl, hb⟩
  refine ⟨_, rfl, ?_⟩
  replace HO108 := aa (Kd.R_below (zcaken HO108.out) hb)
  replace HB := aa (below_step zjjbob hb)
  (try clear hb)
  (try clear hb2)
  (try clear hk)
  (try clear hi)
  refine hK.out _ _ trivial (fun hHeld => ?_)
  clear hK K
  refine norm_ (a' := ?_) ?_ ?_
  rotate_left
  ·
   show Act.put _ (some 18) _ = _
   simp only [Act.put, List.setIfInBounds_toArray, List.set_cons_zero, List.set_cons_succ, i64_w, i32_w]
   rfl
  exact norm_ zgldpg (hCont (v107) _ ⟨(zcaken HO108.out), zjjbob⟩)
 rintro v107 w17 ⟨h0_, h1_⟩
 have n0_ : Aside0 (Kd.R (Kd.int .u8) 5 w17 w.heap.size (fun _ => True) v107 y106) := ⟨h0_⟩
 have n1_ : Aside0 (Below w.heap.size w w17) := ⟨h1_⟩
 clear HB
 clear h0_ h1_
 have HO108 := n0_
 have HB := n1_
 clear n0_ n1_
 have hHeld := trivial
 refine norm_ (a' := ?_) ?_ ?_
 rotate_left
 ·
  simp only [putAll, Act.put, List.setIfInBounds_toArray, List.set_cons_zero, List.set_cons_succ]
  rfl
 refine pu0 9 25 ?_
 refine pu0 10 2 ?_
 refine done_ (done_of HT_.out (by kernel_rfl)) ?_
 try go_wp2
 go_ret
 exact ⟨zlhpib, zjjbob⟩
def spec_l1Seq.f (k : Nat) (a0 : ByteArray) (a1 : Int) : Option (ByteArray) := (spec_l1Digits.f k (wrap64 (Int.tdiv a1 10))).bind fun t101 => (if a0.size + t101.size ≤ 9223372036854775807 then ((spec_l1Digits.f k (Int.tmod a1 10)).bind fun t102 => (if (a0 ++ t101).size + t102.size ≤ 9223372036854775807 then (some ((a0 ++ t101) ++ t102)) else (none))) else (none))
theorem spec_l1Seq.mono : ∀ a0 a1 k, LeO (spec_l1Seq.f k a0 a1) (spec_l1Seq.f (k + 1) a0 a1) := by
 intro a0 a1 k
 unfold spec_l1Seq.f
 with_reducible repeat' first | exact spec_l1Digits.mono _ _ | exact LeO.refl _ | exact LeO.none _ | refine LeO.ite ?_ ?_ | refine LeO.bind ?_ (fun _ => ?_)
theorem spec_l1Seq.calls (k : Nat) (a0 : ByteArray) (a1 : Int) (r : ByteArray) (w : World) (h : spec_l1Seq.f k a0 a1 = some r) :
  Calls Tryd.prog 58 #[.string a0, .int .i64 a1] w fun e w' => e = .returned (.string r) ∧ Below w.heap.size w w' := by
 have HB := aa (Below.refl w.heap.size w)
 have H : ((spec_l1Digits.f k (wrap64 (Int.tdiv a1 10))).bind fun t101 => (if a0.size + t101.size ≤ 9223372036854775807 then ((spec_l1Digits.f k (Int.tmod a1 10)).bind fun t102 => (if (a0 ++ t101).size + t102.size ≤ 9223372036854775807 then (some ((a0 ++ t101) ++ t102)) else (none))) else (none))) = some r := h
 clear h
 revert H
 refine obs_ fun t101 A3 H => ?_
 revert H
 refine itG_ fun c4 H => ?_
 have c4b0 := eq_true c4
 have c4b1 := decide_eq_true c4
 try have c4b2 : (9223372036854775807 < a0.size + t101.size) = False := eq_false (Nat.not_lt.2 c4)
 try (have c4b3 := c4b2; simp only [ByteArray.size_append] at c4b3)
 revert H
 refine obs_ fun t102 A5 H => ?_
 revert H
 refine itG_ fun c6 H => ?_
 have c6b0 := eq_true c6
 have c6b1 := decide_eq_true c6
 try have c6b2 : (9223372036854775807 < (a0 ++ t101).size + t102.size) = False := eq_false (Nat.not_lt.2 c6)
 try (have c6b3 := c6b2; simp only [ByteArray.size_append] at c6b3)
 obtain rfl := Option.some.inj H
 go_enter Tryd.func58, Tryd.ntmps58
 go_wp2_with (first | (refine gc_ Tryd.func78 (some 8) #[.int .i64 (wrap64 (Int.tdiv a1 10))] ?_; (with_reducible refine (spec_l1Digits.calls k (wrap64 (Int.tdiv a1 10)) t101 _ A3.out).mono ?_); rintro e w7 ⟨rfl, hb⟩; refine ⟨_, rfl, ?_⟩; replace HB := aa (below_step zjjbob hb); (try clear hb hk hi)) | (refine gc_ Tryd.func78 (some 12) #[.int .i64 (Int.tmod a1 10)] ?_; (with_reducible refine (spec_l1Digits.calls k (Int.tmod a1 10) t102 _ A5.out).mono ?_); rintro e w8 ⟨rfl, hb⟩; refine ⟨_, rfl, ?_⟩; replace HB := aa (below_step zjjbob hb); (try clear hb hk hi)))
 go_ret
 exact ⟨zlhpib, zjjbob⟩
def spec_l1Cut.l0 : Nat → ByteArray → Int → List ByteArray → Int → Int → Option (List ByteArray)
 | 0, _, _, _, _, _ => none
 | k + 1, x0, x1, x5, x6, x7 => if x7 ≤ (x0.size : Int) then (if x7 = (x0.size : Int) then (if 0 ≤ x6 then (if x6 ≤ x7 then (if x5.length < 8796093022208 then (spec_l1Cut.l0 k x0 x1 (x5 ++ [x0.extract (x6 : Int).toNat (x7 : Int).toNat]) (wrap64 (x7 + 1)) (wrap64 (x7 + 1))) else (none)) else (none)) else (none)) else (if 0 ≤ x7 then (if x7 < (x0.size : Int) then (if (bt x0 x7) = x1 then (if 0 ≤ x6 then (if x6 ≤ x7 then (if x5.length < 8796093022208 then (spec_l1Cut.l0 k x0 x1 (x5 ++ [x0.extract (x6 : Int).toNat (x7 : Int).toNat]) (wrap64 (x7 + 1)) (wrap64 (x7 + 1))) else (none)) else (none)) else (none)) else (spec_l1Cut.l0 k x0 x1 x5 x6 (wrap64 (x7 + 1)))) else (none)) else (none))) else (some x5)
def spec_l1Cut.f (k : Nat) (a0 : ByteArray) (a1 : Int) : Option (List ByteArray) := spec_l1Cut.l0 k a0 a1 (([] : List ByteArray)) 0 0
theorem spec_l1Cut.mono_l : ∀ k, (∀ y0 y1 y2 y3 y4, LeO (spec_l1Cut.l0 k y0 y1 y2 y3 y4) (spec_l1Cut.l0 (k + 1) y0 y1 y2 y3 y4))
 | 0 => fun _ _ _ _ _ r h => by simp [spec_l1Cut.l0] at h
 | k + 1 => by
  have ih0 := spec_l1Cut.mono_l k
  ·
   intro y0 y1 y2 y3 y4
   unfold spec_l1Cut.l0
   with_reducible repeat' first | exact ih0 _ _ _ _ _ | exact LeO.refl _ | exact LeO.none _ | refine LeO.ite ?_ ?_ | refine LeO.bind ?_ (fun _ => ?_)
theorem spec_l1Cut.mono : ∀ a0 a1 k, LeO (spec_l1Cut.f k a0 a1) (spec_l1Cut.f (k + 1) a0 a1) := by
 intro a0 a1 k
 have ih0 := spec_l1Cut.mono_l k
 unfold spec_l1Cut.f
 with_reducible repeat' first | exact ih0 _ _ _ _ _ | exact LeO.refl _ | exact LeO.none _ | refine LeO.ite ?_ ?_ | refine LeO.bind ?_ (fun _ => ?_)
theorem spec_l1Cut.calls (k : Nat) (a0 : ByteArray) (a1 : Int) (r : List ByteArray) (w : World) (h : spec_l1Cut.f k a0 a1 = some r) :
  Calls Tryd.prog 80 #[.string a0, .int .u8 a1] w fun e w' => ∃ v0_ : Value, e = .returned (v0_) ∧ Kd.R Kd.string 9 w' w.heap.size (fun _ => True) v0_ r ∧ Below w.heap.size w w' := by
 have HB := aa (Below.refl w.heap.size w)
 have H : (spec_l1Cut.l0 k a0 a1 (([] : List ByteArray)) 0 0) = some r := h
 clear h
 obtain ⟨y101, hy101⟩ : ∃ y_ : List ByteArray, y_ = (([] : List ByteArray)) := ⟨_, rfl⟩
 replace H : (spec_l1Cut.l0 k a0 a1 y101 0 0) = some r := by cases hy101; exact H
 have Ny101 := aa hy101
 clear hy101
 have H' := aa H
 clear H
 go_enter Tryd.func80, Tryd.ntmps80
 go_wp2_with (first | ((with_reducible refine gate_dst (N := 8) rfl ?_); refine Kd.R_lit Kd.string _ 9 ?hg (N := 8) ?hd (xs := ([] : List ByteArray)) (inner := []) (ok := fun _ => True) (okp := fun _ => True) ?hr ?hp (fun _ hk => hk) trivial (Below.refl _ _) (Nat.le_refl _) (by simp) ?_; (case hd => rfl); (case hg => rfl); (case hr => exact zhlgcp); (case hp => exact (Reps.none _ _)); intro v102 w3 ho4 hb hg_ hnew_; clear hg_ hnew_; (first | rw [← Ny101.out] at ho4 | (simp only [Int.reduceToNat] at ho4; rw [← Ny101.out] at ho4)); have HO103 := aa (Kd.R_lower ho4 (below_size zjjbob)); replace HB := aa (below_step zjjbob hb); clear hb ho4))
 go_loopg [5, 6, 7] k (fun kq v5 v6 v7 w' => ∃ (x5_1 : List ByteArray) (x6_1 : Int) (x7_1 : Int), v6 = .int .i64 x6_1 ∧ v7 = .int .i64 x7_1 ∧ Aside0 (spec_l1Cut.l0 kq a0 a1 x5_1 x6_1 x7_1 = some r) ∧ Aside0 (kq ≤ k) ∧ Aside0 (Kd.R Kd.string 9 w' w.heap.size (fun _ => True) v5 x5_1) ∧ Aside0 (Below w.heap.size w w'))
 case atStart => exact ⟨(y101), (0), (0), zagbkp, zagbkp, H', ⟨Nat.le_refl _⟩, ⟨zcaken HO103.out⟩, ⟨zjjbob⟩⟩
 case round =>
  clear H'
  try clear p2
  obtain ⟨x5_1, x6_1, x7_1, rfl, rfl, HA, HK1, HO_5, HB⟩ := hrel
  cases gk with
  | zero => exact absurd HA.out (by simp [spec_l1Cut.l0])
  | succ k1 =>
   have H := HA.out
   clear HA
   simp only [spec_l1Cut.l0] at H
   revert H
   refine itD_ (fun c5b0 H => ?_) fun c5b0 H => ?_
   ·
    revert H
    refine itE_ (fun c6b0 c6b1 H => ?_) fun c6b0 c6b1 H => ?_
    ·
     revert H
     refine itG_ fun c7 H => ?_
     have c7b0 := eq_true c7
     have c7b1 := decide_eq_true c7
     clear c7
     revert H
     refine itG_ fun c8 H => ?_
     have c8b0 := eq_true c8
     have c8b1 := decide_eq_true c8
     clear c8
     have c9b0 := eq_true (of_decide_eq_true zgglam : x7_1 ≤ (a0.size : Int))
     revert H
     refine itG_ fun c10 H => ?_
     have LMc10 := aa c10
     clear c10
     obtain ⟨y104, hy104⟩ : ∃ y_ : List ByteArray, y_ = (x5_1 ++ [a0.extract (x6_1 : Int).toNat (x7_1 : Int).toNat]) := ⟨_, rfl⟩
     replace H : (spec_l1Cut.l0 k1 a0 a1 y104 (wrap64 (x7_1 + 1)) (wrap64 (x7_1 + 1))) = some r := by cases hy104; exact H
     have Ny104 := aa hy104
     clear hy104
     have H' := aa H
     clear H
     go_wp2_with (first | ((with_reducible refine gate_builtin (b := .append) (xs := #[.tmp 26, .tmp 31]) rfl ?_); at_builtin; refine Kd.R_append Kd.string (w0 := w) w.heap.size rfl (.tmp 26) (.tmp 31) 38 9 (.string ⟨#[]⟩) 16 rfl Tryd.underlying38 info9 rfl (by decide) (by omega) u5 x5_1 (a0.extract (x6_1 : Int).toNat (x7_1 : Int).toNat) [.string (a0.extract (x6_1 : Int).toNat (x7_1 : Int).toNat)] (fun _ => True) (fun _ => False) rfl rfl ?aP (fun _ hk => hk.elim) ?aF ?aO ?aB ?aS ?aL ?_; (case aP => exact rfl); (case aB => exact zjjbob); (case aF => exact (fun _ _ => trivial)); (case aO => exact (zcaken HO_5.out)); (case aS => exact (below_size zjjbob)); (case aL => have := LMc10.out; omega); intro v105 w11 ho hb hg hat; rw [← Ny104.out] at ho; replace HB := aa (hb); have HO106 := aa (ho); clear HO_5; clear ho hb hg hat))
     go_roundg k1
     case measure => have := HK1.out; omega
     case rel => exact ⟨(y104), (wrap64 (x7_1 + 1)), (wrap64 (x7_1 + 1)), zagbkp, zagbkp, H', ⟨by have := HK1.out; omega⟩, ⟨zcaken HO106.out⟩, ⟨zjjbob⟩⟩
    revert H
    refine itH_ fun c12b0 H => ?_
    revert H
    refine itH_ fun c13b0 H => ?_
    revert H
    refine itE_ (fun c15b0 c15b1 H => ?_) fun c15b0 c15b1 H => ?_
    ·
     revert H
     refine itG_ fun c16 H => ?_
     have c16b0 := eq_true c16
     have c16b1 := decide_eq_true c16
     clear c16
     revert H
     refine itG_ fun c17 H => ?_
     have c17b0 := eq_true c17
     have c17b1 := decide_eq_true c17
     clear c17
     have c18b0 := eq_true (of_decide_eq_true zgglam : x7_1 ≤ (a0.size : Int))
     revert H
     refine itG_ fun c19 H => ?_
     have LMc19 := aa c19
     clear c19
     obtain ⟨y107, hy107⟩ : ∃ y_ : List ByteArray, y_ = (x5_1 ++ [a0.extract (x6_1 : Int).toNat (x7_1 : Int).toNat]) := ⟨_, rfl⟩
     replace H : (spec_l1Cut.l0 k1 a0 a1 y107 (wrap64 (x7_1 + 1)) (wrap64 (x7_1 + 1))) = some r := by cases hy107; exact H
     have Ny107 := aa hy107
     clear hy107
     have H' := aa H
     clear H
     have p14 : 0 ≤ (x7_1 : Int) := of_decide_eq_true zgglam
     have q14 : x7_1 < (a0.size : Int) := of_decide_eq_true zgglam
     have hx14 := bt_at a0 x7_1
     replace p14 := eq_true p14
     replace q14 := eq_true q14
     go_wp2_with (first | ((with_reducible refine gate_builtin (b := .append) (xs := #[.tmp 26, .tmp 31]) rfl ?_); at_builtin; refine Kd.R_append Kd.string (w0 := w) w.heap.size rfl (.tmp 26) (.tmp 31) 38 9 (.string ⟨#[]⟩) 16 rfl Tryd.underlying38 info9 rfl (by decide) (by omega) u5 x5_1 (a0.extract (x6_1 : Int).toNat (x7_1 : Int).toNat) [.string (a0.extract (x6_1 : Int).toNat (x7_1 : Int).toNat)] (fun _ => True) (fun _ => False) rfl rfl ?aP (fun _ hk => hk.elim) ?aF ?aO ?aB ?aS ?aL ?_; (case aP => exact rfl); (case aB => exact zjjbob); (case aF => exact (fun _ _ => trivial)); (case aO => exact (zcaken HO_5.out)); (case aS => exact (below_size zjjbob)); (case aL => have := LMc19.out; omega); intro v108 w20 ho hb hg hat; rw [← Ny107.out] at ho; replace HB := aa (hb); have HO109 := aa (ho); clear HO_5; clear ho hb hg hat))
     go_roundg k1
     case measure => have := HK1.out; omega
     case rel => exact ⟨(y107), (wrap64 (x7_1 + 1)), (wrap64 (x7_1 + 1)), zagbkp, zagbkp, H', ⟨by have := HK1.out; omega⟩, ⟨zcaken HO109.out⟩, ⟨zjjbob⟩⟩
    have H' := aa H
    clear H
    have p14 : 0 ≤ (x7_1 : Int) := of_decide_eq_true zgglam
    have q14 : x7_1 < (a0.size : Int) := of_decide_eq_true zgglam
    have hx14 := bt_at a0 x7_1
    replace p14 := eq_true p14
    replace q14 := eq_true q14
    go_wp2
    go_roundg k1
    case measure => have := HK1.out; omega
    case rel => exact ⟨(x5_1), (x6_1), (wrap64 (x7_1 + 1)), zagbkp, zagbkp, H', ⟨by have := HK1.out; omega⟩, ⟨zcaken HO_5.out⟩, ⟨zjjbob⟩⟩
   ·
    obtain rfl := Option.some.inj H
    go_wp2
    go_ret
    exact ⟨_, zlhpib, zcaken HO_5.out, zjjbob⟩
mutual
def spec_l1Names.j0 : Nat → List ByteArray → Bool → Option (List ByteArray × Bool)
 | 0, _, _ => none
 | k + 1, x4, x19 => if x19 = true then (some (([] : List ByteArray), false)) else (spec_l1Names.l0 k x4 1)
def spec_l1Names.l0 : Nat → List ByteArray → Int → Option (List ByteArray × Bool)
 | 0, _, _ => none
 | k + 1, x4, x5 => if x5 < (x4.length : Int) then (if 0 ≤ x5 then ((spec_l1Name.f k (rdOf ByteArray.empty x4 x5)).bind fun t109 => (if t109 = true then (spec_l1Names.l0 k x4 (wrap64 (x5 + 1))) else (some (([] : List ByteArray), false)))) else (none)) else (if 1 ≤ (x4.length : Int) then (some ((x4.drop (1 : Int).toNat), true)) else (none))
end
def spec_l1Names.f (k : Nat) (a0 : ByteArray) : Option (List ByteArray × Bool) := if a0.toList = ([47] : List UInt8) then (some ((([] : List ByteArray)), true)) else ((spec_l1Cut.f k a0 47).bind fun t104 => (if (t104.length : Int) < 2 then (spec_l1Names.j0 k t104 true) else (if 0 < (t104.length : Int) then (spec_l1Names.j0 k t104 ((rdOf ByteArray.empty t104 0).toList != ([] : List UInt8))) else (none))))
theorem spec_l1Names.mono_l : ∀ k, (∀ y0 y1, LeO (spec_l1Names.j0 k y0 y1) (spec_l1Names.j0 (k + 1) y0 y1)) ∧ (∀ y0 y1, LeO (spec_l1Names.l0 k y0 y1) (spec_l1Names.l0 (k + 1) y0 y1))
 | 0 => ⟨fun _ _ r h => by simp [spec_l1Names.j0] at h, fun _ _ r h => by simp [spec_l1Names.l0] at h⟩
 | k + 1 => by
  obtain ⟨ih0, ih1⟩ := spec_l1Names.mono_l k
  refine ⟨?_, ?_⟩
  ·
   intro y0 y1
   unfold spec_l1Names.j0
   with_reducible repeat' first | exact ih0 _ _ | exact ih1 _ _ | exact spec_l1Cut.mono _ _ _ | exact spec_l1Name.mono _ _ | exact LeO.refl _ | exact LeO.none _ | refine LeO.ite ?_ ?_ | refine LeO.bind ?_ (fun _ => ?_)
  ·
   intro y0 y1
   unfold spec_l1Names.l0
   with_reducible repeat' first | exact ih0 _ _ | exact ih1 _ _ | exact spec_l1Cut.mono _ _ _ | exact spec_l1Name.mono _ _ | exact LeO.refl _ | exact LeO.none _ | refine LeO.ite ?_ ?_ | refine LeO.bind ?_ (fun _ => ?_)
theorem spec_l1Names.mono : ∀ a0 k, LeO (spec_l1Names.f k a0) (spec_l1Names.f (k + 1) a0) := by
 intro a0 k
 obtain ⟨ih0, ih1⟩ := spec_l1Names.mono_l k
 unfold spec_l1Names.f
 with_reducible repeat' first | exact ih0 _ _ | exact ih1 _ _ | exact spec_l1Cut.mono _ _ _ | exact spec_l1Name.mono _ _ | exact LeO.refl _ | exact LeO.none _ | refine LeO.ite ?_ ?_ | refine LeO.bind ?_ (fun _ => ?_)
theorem spec_l1Names.calls (k : Nat) (a0 : ByteArray) (r1 : List ByteArray) (r2 : Bool) (w : World) (h : spec_l1Names.f k a0 = some (r1, r2)) :
  Calls Tryd.prog 81 #[.string a0] w fun e w' => ∃ v0_ : Value, e = .returned (.tuple #[v0_, .bool r2]) ∧ Kd.Q Kd.string 9 w' w.heap.size (fun _ => True) v0_ r1 ∧ Below w.heap.size w w' := by
 have HB := aa (Below.refl w.heap.size w)
 have H : (if a0.toList = ([47] : List UInt8) then (some ((([] : List ByteArray)), true)) else ((spec_l1Cut.f k a0 47).bind fun t104 => (if (t104.length : Int) < 2 then (spec_l1Names.j0 k t104 true) else (if 0 < (t104.length : Int) then (spec_l1Names.j0 k t104 ((rdOf ByteArray.empty t104 0).toList != ([] : List UInt8))) else (none))))) = some (r1, r2) := h
 clear h
 revert H
 refine itE_ (fun c2b0 c2b1 H => ?_) fun c2b0 c2b1 H => ?_
 ·
  obtain ⟨y101, hy101⟩ : ∃ y_ : List ByteArray, y_ = (([] : List ByteArray)) := ⟨_, rfl⟩
  replace H : (some (y101, true)) = some (r1, r2) := by cases hy101; exact H
  have Ny101 := aa hy101
  clear hy101
  simp only [Option.some.injEq, Prod.mk.injEq] at H
  obtain ⟨rfl, rfl⟩ := H
  go_enter Tryd.func81, Tryd.ntmps81
  go_wp2_with (first | ((with_reducible refine gate_dst (N := 8) rfl ?_); refine Kd.R_lit Kd.string _ 9 ?hg (N := 8) ?hd (xs := ([] : List ByteArray)) (inner := []) (ok := fun _ => True) (okp := fun _ => True) ?hr ?hp (fun _ hk => hk) trivial (Below.refl _ _) (Nat.le_refl _) (by simp) ?_; (case hd => rfl); (case hg => rfl); (case hr => exact zhlgcp); (case hp => exact (Reps.none _ _)); intro v102 w3 ho4 hb hg_ hnew_; clear hg_ hnew_; (first | rw [← Ny101.out] at ho4 | (simp only [Int.reduceToNat] at ho4; rw [← Ny101.out] at ho4)); have HO103 := aa (Kd.R_lower ho4 (below_size zjjbob)); replace HB := aa (below_step zjjbob hb); clear hb ho4))
  go_ret2
  exact ⟨_, zlhpib, Kd.Q_of_R (zcaken HO103.out), zjjbob⟩
 revert H
 refine obs_ fun t104 A5 H => ?_
 have HC6 := aa H
 clear H
 go_enter Tryd.func81, Tryd.ntmps81
 go_upto_region 4 with (first | (refine gc_ Tryd.func80 (some 10) #[.string a0, .int .u8 47] ?_; (with_reducible refine (spec_l1Cut.calls k a0 47 t104 _ A5.out).mono ?_); rintro e w7 ⟨v105, rfl, ho0, hb⟩; refine ⟨_, rfl, ?_⟩; have HO106 := aa (Kd.R_lower ho0 (below_size zjjbob)); replace HB := aa (below_step zjjbob hb); (try clear hb hk hi ho0)))
 (try simp only [Act.put, List.setIfInBounds_toArray, List.set_cons_zero, List.set_cons_succ])
 go_cut [19] (fun v19 wc => ∃ (kq : Nat) (x19_5 : Bool), v19 = .bool x19_5 ∧ Aside0 (spec_l1Names.j0 kq t104 x19_5 = some (r1, r2)) ∧ Aside0 (kq ≤ k) ∧ Aside0 (Kd.R Kd.string 9 wc w.heap.size (fun _ => True) v105 t104) ∧ Aside0 (Below w.heap.size w wc))
 case first =>
  have H := HC6.out
  clear HC6
  revert H
  refine itC_ (fun c8 H => ?_) fun c8 H => ?_
  ·
   have c8b0 := decide_eq_true c8
   have c8b1 : decide (t104.length < 2) = true := decide_eq_true (by omega)
   clear c8
   (first | rw [c8b0] | (simp only [i64_w, i32_w]; rw [c8b0]) | (simp only [c8b2, Bool.not_false, Bool.not_true]) | skip)
   have H' := aa H
   clear H
   obtain ⟨Ao9, co9, eo9⟩ := Kd.R_slice HO106.out
   subst eo9
   go_wp2
   go_meet
   case rel => exact ⟨_, (true), zagbkp, H', ⟨zpacfg⟩, ⟨zcaken HO106.out⟩, ⟨zjjbob⟩⟩
  have c8b0 := decide_eq_false c8
  have c8b1 : decide (t104.length < 2) = false := decide_eq_false (by omega)
  clear c8
  (first | rw [c8b0] | (simp only [i64_w, i32_w]; rw [c8b0]) | (simp only [c8b2, Bool.not_false, Bool.not_true]) | skip)
  revert H
  refine itG_ fun c10 H => ?_
  have c10b0 := decide_eq_true c10
  have c10b1 : decide (0 < t104.length) = true := decide_eq_true (by omega)
  clear c10
  have H' := aa H
  clear H
  obtain ⟨Ao11, co11, eo11⟩ := Kd.R_slice HO106.out
  subst eo11
  have p107 : 0 ≤ (0 : Int) := (by omega)
  have q107 : 0 < (t104.length : Int) := of_decide_eq_true zgglam
  obtain ⟨ad107, e107, hx107_0⟩ := Kd.at_string (Kd.R_reads' HO106.out).2.2 0 p107 q107
  cases e107
  have qi107 : (0 < t104.length) = True := eq_true (by omega)
  (try rw [show ((0 : Int)).toNat = 0 from rfl] at hx107_0)
  (try rw [Addr.add_zero'] at hx107_0)
  replace p107 := eq_true p107
  replace q107 := eq_true q107
  go_wp2
  go_meet
  case rel => exact ⟨_, (((rdOf ByteArray.empty t104 0).toList != ([] : List UInt8))), zheoaa, H', ⟨zpacfg⟩, ⟨zcaken HO106.out⟩, ⟨zjjbob⟩⟩
 case rest =>
  clear HC6
  try clear p1
  try clear q1
  try clear hx1
  try clear qi1
  try clear c2b0
  try clear c2b1
  try clear p2
  try clear c8
  try clear c8b0
  try clear c8b1
  try clear c8b2
  try clear c10
  try clear c10b0
  try clear c10b1
  try clear p10
  try clear q10
  try clear hx10
  try clear qi10
  try clear hx107_0
  try clear p107
  try clear q107
  obtain ⟨kq, x19_5, rfl, HA, HJ5, HO_4, HB⟩ := hcut
  cases kq with
  | zero => exact absurd HA.out (by simp [spec_l1Names.j0])
  | succ kj5 =>
   have H := HA.out
   clear HA
   simp only [spec_l1Names.j0] at H
   by_cases c12 : x19_5 = true
   ·
    subst c12
    rw [if_pos rfl] at H
    simp only [Option.some.injEq, Prod.mk.injEq] at H
    obtain ⟨rfl, rfl⟩ := H
    go_wp2
    go_ret2
    exact ⟨_, zlhpib, Kd.Q_of_R zhijhk, zjjbob⟩
   ·
    replace c12 := Bool.eq_false_iff.mpr c12
    subst c12
    rw [if_neg fT_] at H
    have H' := aa H
    clear H
    go_wp2
    go_loopg [5] kj5 (fun kq v5 w' => ∃ (x5_2 : Int), v5 = .int .i64 x5_2 ∧ Aside0 (spec_l1Names.l0 kq t104 x5_2 = some (r1, r2)) ∧ Aside0 (kq ≤ kj5) ∧ Aside0 (Kd.R Kd.string 9 w' w.heap.size (fun _ => True) v105 t104) ∧ Aside0 (Below w.heap.size w w'))
    case atStart => exact ⟨(1), zagbkp, H', ⟨Nat.le_refl _⟩, ⟨zcaken HO_4.out⟩, ⟨zjjbob⟩⟩
    case round =>
     clear H'
     try clear p1
     try clear q1
     try clear hx1
     try clear qi1
     try clear c2b0
     try clear c2b1
     try clear p2
     try clear c8
     try clear c8b0
     try clear c8b1
     try clear c8b2
     try clear c10
     try clear c10b0
     try clear c10b1
     try clear p10
     try clear q10
     try clear hx10
     try clear qi10
     try clear c12
     try clear hx107_0
     try clear p1
     try clear p10
     try clear p107
     try clear p2
     try clear q1
     try clear q10
     try clear q107
     obtain ⟨x5_2, rfl, HA, HK2, HO_4, HB⟩ := hrel
     cases gk with
     | zero => exact absurd HA.out (by simp [spec_l1Names.l0])
     | succ k2 =>
      have H := HA.out
      clear HA
      simp only [spec_l1Names.l0] at H
      revert H
      refine itD_ (fun c13b0 H => ?_) fun c13b0 H => ?_
      ·
       revert H
       refine itH_ fun c14b0 H => ?_
       revert H
       refine obs_ fun t109 A15 H => ?_
       by_cases c16 : t109 = true
       ·
        subst c16
        rw [if_pos rfl] at H
        have H' := aa H
        clear H
        obtain ⟨Ao17, co17, eo17⟩ := Kd.R_slice HO_4.out
        subst eo17
        have p108 : 0 ≤ (x5_2 : Int) := of_decide_eq_true zgglam
        have q108 : x5_2 < (t104.length : Int) := of_decide_eq_true zgglam
        obtain ⟨ad108, e108, hx108_0⟩ := Kd.at_string (Kd.R_reads' HO_4.out).2.2 x5_2 p108 q108
        cases e108
        replace p108 := eq_true p108
        replace q108 := eq_true q108
        go_wp2_with (first | (refine gc_ Tryd.func56 (some 30) #[.string (rdOf ByteArray.empty t104 x5_2)] ?_; (with_reducible refine (spec_l1Name.calls k2 (rdOf ByteArray.empty t104 x5_2) true _ A15.out).mono ?_); rintro e w' ⟨rfl, ⟨nd, rfl⟩⟩; refine ⟨_, rfl, ?_⟩))
        go_roundg k2
        case measure => have := HJ5.out; have := HK2.out; omega
        case rel => exact ⟨(wrap64 (x5_2 + 1)), zagbkp, H', ⟨by have := HJ5.out; have := HK2.out; omega⟩, ⟨zcaken HO_4.out⟩, ⟨zjjbob⟩⟩
       replace c16 := Bool.eq_false_iff.mpr c16
       subst c16
       rw [if_neg fT_] at H
       simp only [Option.some.injEq, Prod.mk.injEq] at H
       obtain ⟨rfl, rfl⟩ := H
       obtain ⟨Ao18, co18, eo18⟩ := Kd.R_slice HO_4.out
       subst eo18
       have p108 : 0 ≤ (x5_2 : Int) := of_decide_eq_true zgglam
       have q108 : x5_2 < (t104.length : Int) := of_decide_eq_true zgglam
       obtain ⟨ad108, e108, hx108_0⟩ := Kd.at_string (Kd.R_reads' HO_4.out).2.2 x5_2 p108 q108
       cases e108
       replace p108 := eq_true p108
       replace q108 := eq_true q108
       go_wp2_with (first | (refine gc_ Tryd.func56 (some 30) #[.string (rdOf ByteArray.empty t104 x5_2)] ?_; (with_reducible refine (spec_l1Name.calls k2 (rdOf ByteArray.empty t104 x5_2) false _ A15.out).mono ?_); rintro e w' ⟨rfl, ⟨nd, rfl⟩⟩; refine ⟨_, rfl, ?_⟩))
       go_ret2
       exact ⟨_, zlhpib, Kd.Q_of_R zhijhk, zjjbob⟩
      ·
       revert H
       refine itG_ fun c19 H => ?_
       have c19b0 := eq_true c19
       have c19b1 := decide_eq_true c19
       clear c19
       obtain ⟨y110, hy110⟩ : ∃ y_ : List ByteArray, y_ = (t104.drop (1 : Int).toNat) := ⟨_, rfl⟩
       replace H : (some (y110, true)) = some (r1, r2) := by cases hy110; exact H
       have Ny110 := aa hy110
       clear hy110
       simp only [Option.some.injEq, Prod.mk.injEq] at H
       obtain ⟨rfl, rfl⟩ := H
       obtain ⟨Ao20, co20, eo20⟩ := Kd.R_slice HO_4.out
       subst eo20
       have q21 : (1 : Int) ≤ ((t104.length : Int) : Int) := of_decide_eq_true zgglam
       obtain ⟨i021, hi021, _, hsz21, _⟩ := info_parts info9
       have hcut21 := cut_from (P := Tryd.prog) 38 9 .i64 Tryd.underlying38 hi021 1 hsz21 Ao20 t104.length co20 1 (by omega) q21
       have hr21 := Kd.Q_drop (k := (1 : Int).toNat) (Kd.Q_of_R HO_4.out) (by omega)
       obtain ⟨A21, hA21⟩ : ∃ A1, A1 = (if co20 = (1 : Int).toNat then Ao20 else (Ao20 : Option Addr).map (·.add ((1 : Int).toNat * 1))) := ⟨_, rfl⟩
       obtain ⟨c21, hc21⟩ : ∃ c1, c1 = co20 - (1 : Int).toNat := ⟨_, rfl⟩
       have hy21 : y110.length = t104.length - (1 : Int).toNat := (by rw [Ny110.out, List.length_drop])
       rw [← Ny110.out] at hr21
       rw [← hy21, ← hA21, ← hc21] at hcut21
       replace hr21 : Kd.Q Kd.string 9 wr w.heap.size (fun _ => True) (.slice A21 y110.length c21) y110 := (by rw [hA21, hc21, hy21]; exact hr21)
       have HE21 : Aside0 ((Value.slice A21 y110.length c21).ownBlock = (.slice Ao20 t104.length co20 : Value).ownBlock) := ⟨by rw [hA21]; split <;> (cases (Ao20 : Option Addr) <;> rfl)⟩
       clear hy21 hi021 hsz21 HO_4 hA21 hc21
       have HO112 := aa hr21
       clear hr21
       replace q21 := eq_true q21
       go_wp2
       go_ret2
       exact ⟨_, zlhpib, by (with_reducible repeat (first | apply Kd.Q_alloc | apply Kd.Q_drewN | apply Kd.Q_drew)); exact HO112.out, zjjbob⟩
def spec_l1Fault.j0 : Nat → ByteArray → Bool → Option (Int)
 | 0, _, _ => none
 | k + 1, x0, x17 => if x17 = true then (some 2) else ((spec_l1Names.f k x0).bind fun bt104 => (if bt104.2 = true then (some 0) else (some 5)))
def spec_l1Fault.f (k : Nat) (a0 : ByteArray) : Option (Int) := if (a0.size : Int) > 24 then (spec_l1Fault.j0 k a0 true) else (if a0.toList = ([47] : List UInt8) then (spec_l1Fault.j0 k a0 false) else ((spec_l1Cut.f k a0 47).bind fun t101 => (spec_l1Fault.j0 k a0 (decide ((t101.length : Int) > 5)))))
theorem spec_l1Fault.mono_l : ∀ k, (∀ y0 y1, LeO (spec_l1Fault.j0 k y0 y1) (spec_l1Fault.j0 (k + 1) y0 y1))
 | 0 => fun _ _ r h => by simp [spec_l1Fault.j0] at h
 | k + 1 => by
  have ih0 := spec_l1Fault.mono_l k
  ·
   intro y0 y1
   unfold spec_l1Fault.j0
   with_reducible repeat' first | exact ih0 _ _ | exact spec_l1Cut.mono _ _ _ | exact spec_l1Names.mono _ _ | exact LeO.refl _ | exact LeO.none _ | refine LeO.ite ?_ ?_ | refine LeO.bind ?_ (fun _ => ?_)
theorem spec_l1Fault.mono : ∀ a0 k, LeO (spec_l1Fault.f k a0) (spec_l1Fault.f (k + 1) a0) := by
 intro a0 k
 have ih0 := spec_l1Fault.mono_l k
 unfold spec_l1Fault.f
 with_reducible repeat' first | exact ih0 _ _ | exact spec_l1Cut.mono _ _ _ | exact spec_l1Names.mono _ _ | exact LeO.refl _ | exact LeO.none _ | refine LeO.ite ?_ ?_ | refine LeO.bind ?_ (fun _ => ?_)
theorem spec_l1Fault.calls (k : Nat) (a0 : ByteArray) (r : Int) (w : World) (h : spec_l1Fault.f k a0 = some r) :
  Calls Tryd.prog 62 #[.string a0] w fun e w' => e = .returned (.int .i64 r) ∧ Below w.heap.size w w' := by
 have HB := aa (Below.refl w.heap.size w)
 have H : (if (a0.size : Int) > 24 then (spec_l1Fault.j0 k a0 true) else (if a0.toList = ([47] : List UInt8) then (spec_l1Fault.j0 k a0 false) else ((spec_l1Cut.f k a0 47).bind fun t101 => (spec_l1Fault.j0 k a0 (decide ((t101.length : Int) > 5)))))) = some r := h
 clear h
 have HC2 := aa H
 clear H
 go_enter Tryd.func62, Tryd.ntmps62
 go_upto_region 1 with (fail)
 go_cut [17] (fun v17 wc => ∃ (kq : Nat) (x17_1 : Bool), v17 = .bool x17_1 ∧ Aside0 (spec_l1Fault.j0 kq a0 x17_1 = some r) ∧ Aside0 (kq ≤ k) ∧ Aside0 (Below w.heap.size w wc))
 case first =>
  have H := HC2.out
  clear HC2
  revert H
  refine itC_ (fun c3 H => ?_) fun c3 H => ?_
  ·
   have c3b0 : decide (24 < (a0.size : Int)) = true := decide_eq_true c3
   have c3b1 : decide (24 < a0.size) = true := decide_eq_true (by omega)
   clear c3
   (first | rw [c3b0] | (simp only [i64_w, i32_w]; rw [c3b0]) | (simp only [c3b2, Bool.not_false, Bool.not_true]) | skip)
   have H' := aa H
   clear H
   go_wp2
   go_meet
   case rel => exact ⟨_, (true), zagbkp, H', ⟨zpacfg⟩, ⟨zjjbob⟩⟩
  have c3b0 : decide (24 < (a0.size : Int)) = false := decide_eq_false c3
  have c3b1 : decide (24 < a0.size) = false := decide_eq_false (by omega)
  clear c3
  (first | rw [c3b0] | (simp only [i64_w, i32_w]; rw [c3b0]) | (simp only [c3b2, Bool.not_false, Bool.not_true]) | skip)
  revert H
  refine itE_ (fun c4b0 c4b1 H => ?_) fun c4b0 c4b1 H => ?_
  ·
   have H' := aa H
   clear H
   go_wp2
   go_meet
   case rel => exact ⟨_, (false), zagbkp, H', ⟨zpacfg⟩, ⟨zjjbob⟩⟩
  revert H
  refine obs_ fun t101 A5 H => ?_
  have H' := aa H
  clear H
  go_wp2_with (first | (go_at_call 80; (with_reducible refine (spec_l1Cut.calls k a0 47 t101 _ A5.out).mono ?_); rintro e w6 ⟨v102, rfl, ho0, hb⟩; have HO103 := aa (Kd.R_lower ho0 (below_size zjjbob)); replace HB := aa (below_step zjjbob hb); (try clear hb hk hi ho0); obtain ⟨Ao7, co7, eo7⟩ := Kd.R_slice HO103.out; subst eo7))
  go_meet
  case rel => exact ⟨_, (decide ((t101.length : Int) > 5)), zagbkp, H', ⟨zpacfg⟩, ⟨zjjbob⟩⟩
 case rest =>
  clear HC2
  try clear p2
  try clear c3
  try clear c3b0
  try clear c3b1
  try clear c3b2
  try clear c4b0
  try clear c4b1
  obtain ⟨kq, x17_1, rfl, HA, HJ1, HB⟩ := hcut
  cases kq with
  | zero => exact absurd HA.out (by simp [spec_l1Fault.j0])
  | succ kj1 =>
   have H := HA.out
   clear HA
   simp only [spec_l1Fault.j0] at H
   by_cases c8 : x17_1 = true
   ·
    subst c8
    rw [if_pos rfl] at H
    obtain rfl := Option.some.inj H
    go_wp2
    go_ret
    exact ⟨zlhpib, zjjbob⟩
   ·
    replace c8 := Bool.eq_false_iff.mpr c8
    subst c8
    rw [if_neg fT_] at H
    revert H
    refine ob2_ fun t104 t105 A9 H => ?_
    (try dsimp only at H)
    by_cases c10 : t105 = true
    ·
     subst c10
     rw [if_pos rfl] at H
     obtain rfl := Option.some.inj H
     go_wp2_with (first | (refine gc_ Tryd.func81 (some 20) #[.string a0] ?_; (with_reducible refine (spec_l1Names.calls kj1 a0 t104 true _ A9.out).mono ?_); rintro e w11 ⟨v106, rfl, ho0, hb⟩; refine ⟨_, rfl, ?_⟩; have HO107 := aa (Kd.Q_lower ho0 (below_size zjjbob)); replace HB := aa (below_step zjjbob hb); (try clear hb hk hi ho0)))
     go_ret
     exact ⟨zlhpib, zjjbob⟩
    replace c10 := Bool.eq_false_iff.mpr c10
    subst c10
    rw [if_neg fT_] at H
    obtain rfl := Option.some.inj H
    go_wp2_with (first | (refine gc_ Tryd.func81 (some 20) #[.string a0] ?_; (with_reducible refine (spec_l1Names.calls kj1 a0 t104 false _ A9.out).mono ?_); rintro e w12 ⟨v106, rfl, ho0, hb⟩; refine ⟨_, rfl, ?_⟩; have HO107 := aa (Kd.Q_lower ho0 (below_size zjjbob)); replace HB := aa (below_step zjjbob hb); (try clear hb hk hi ho0)))
    go_ret
    exact ⟨zlhpib, zjjbob⟩
def spec_l2Owner.f (a0 : Int) : Option (Bool) := (spec_l1In.f a0 0 9).bind fun t101 => (some t101)
theorem spec_l2Owner.calls (a0 : Int) (r : Bool) (w : World) (h : spec_l2Owner.f a0 = some r) :
  Calls Tryd.prog 74 #[.int .i64 a0] w fun e w' => e = .returned (.bool r) ∧ Drawn0 w w' := by
 have H : ((spec_l1In.f a0 0 9).bind fun t101 => (some t101)) = some r := h
 clear h
 revert H
 refine obs_ fun t101 A2 H => ?_
 obtain rfl := Option.some.inj H
 go_enter Tryd.func74, Tryd.ntmps74
 go_wp2_with (first | (refine gc_ Tryd.func57 (some 4) #[.int .i64 a0, .int .i64 0, .int .i64 9] ?_; (with_reducible refine (spec_l1In.calls a0 0 9 t101 _ A2.out).mono ?_); rintro e w' ⟨rfl, ⟨nd, rfl⟩⟩; refine ⟨_, rfl, ?_⟩))
 go_ret
 exact ⟨zagbkp, ziajdh⟩
def spec_l2Put.l0 : Nat → List (S32) → Int → ByteArray → Int → Int → Int → Int → Option ((List (S32)))
 | 0, _, _, _, _, _, _, _ => none
 | k + 1, x0, x5, x102000, x102001, x102002, x102003, x102004 => if x5 < (x0.length : Int) then (if 0 ≤ x5 then (if (Op.bytesLess (((rd_T32 x0 x5).f0).toList) x102000.toList) = true then (spec_l2Put.l0 k x0 (wrap64 (x5 + 1)) x102000 x102001 x102002 x102003 x102004) else ((some (([] : List (S32)) : List (S32))).bind fun y103 => (if x5 ≤ (x0.length : Int) then ((some (x0.take (x5 : Int).toNat : List (S32))).bind fun y106 => (if y103.length + y106.length < 2932031007402 then ((some (y103 ++ y106 : List (S32))).bind fun y110 => (if y110.length < 2932031007402 then ((some (y110 ++ [(⟨x102000, x102001, x102002, x102003, x102004⟩ : S32)] : List (S32))).bind fun y113 => ((some (x0.drop (x5 : Int).toNat : List (S32))).bind fun y116 => (if y113.length + y116.length < 2932031007402 then (some (y113 ++ y116)) else (none)))) else (none))) else (none))) else (none)))) else (none)) else ((some (([] : List (S32)) : List (S32))).bind fun y123 => (if 0 ≤ x5 then (if x5 ≤ (x0.length : Int) then ((some (x0.take (x5 : Int).toNat : List (S32))).bind fun y126 => (if y123.length + y126.length < 2932031007402 then ((some (y123 ++ y126 : List (S32))).bind fun y130 => (if y130.length < 2932031007402 then ((some (y130 ++ [(⟨x102000, x102001, x102002, x102003, x102004⟩ : S32)] : List (S32))).bind fun y133 => ((some (x0.drop (x5 : Int).toNat : List (S32))).bind fun y136 => (if y133.length + y136.length < 2932031007402 then (some (y133 ++ y136)) else (none)))) else (none))) else (none))) else (none)) else (none)))
def spec_l2Put.f (k : Nat) (l0 : List (S32)) (a1_0 : ByteArray) (a1_1 : Int) (a1_2 : Int) (a1_3 : Int) (a1_4 : Int) : Option ((List (S32))) := spec_l2Put.l0 k l0 0 a1_0 a1_1 a1_2 a1_3 a1_4
theorem spec_l2Put.mono_l : ∀ k, (∀ y0 y1 y2 y3 y4 y5 y6, LeO (spec_l2Put.l0 k y0 y1 y2 y3 y4 y5 y6) (spec_l2Put.l0 (k + 1) y0 y1 y2 y3 y4 y5 y6))
 | 0 => fun _ _ _ _ _ _ _ r h => by simp [spec_l2Put.l0] at h
 | k + 1 => by
  have ih0 := spec_l2Put.mono_l k
  ·
   intro y0 y1 y2 y3 y4 y5 y6
   unfold spec_l2Put.l0
   with_reducible repeat' first | exact ih0 _ _ _ _ _ _ _ | exact LeO.refl _ | exact LeO.none _ | refine LeO.ite ?_ ?_ | refine LeO.bind ?_ (fun _ => ?_)
theorem spec_l2Put.mono : ∀ a0 a1 a2 a3 a4 a5 k, LeO (spec_l2Put.f k a0 a1 a2 a3 a4 a5) (spec_l2Put.f (k + 1) a0 a1 a2 a3 a4 a5) := by
 intro a0 a1 a2 a3 a4 a5 k
 have ih0 := spec_l2Put.mono_l k
 unfold spec_l2Put.f
 with_reducible repeat' first | exact ih0 _ _ _ _ _ _ _ | exact LeO.refl _ | exact LeO.none _ | refine LeO.ite ?_ ?_ | refine LeO.bind ?_ (fun _ => ?_)
def spec_l2Put.T2 : Bool × List (List Nat × List Nat) := (true, [([], []), ([], []), ([1], [1]), ([0, 2], [0, 2]), ([3], [3]), ([4], [4]), ([4], [4]), ([5, 6, 4], [4, 5, 6]), ([7, 4], [4, 7]), ([8, 4], [4, 8]), ([4], [4]), ([10, 4], [4, 10]), ([9, 11, 4], [4, 9, 11]), ([4, 12], [4, 12])])
def spec_l2Put.B2 : List Nat := [0, 0, 2, 7, 15, 31, 31, 127, 255, 511, 31, 1055, 4095, 8191]
theorem spec_l2Put.tab2 : rtab .any (opsOf Tryd.f77 2) = spec_l2Put.T2 := by kernel_rfl
theorem spec_l2Put.bits2 : waitsOk spec_l2Put.T2.2 spec_l2Put.B2 = true := by kernel_rfl
def spec_l2Put.T5 : Bool × List (List Nat × List Nat) := (true, [([], []), ([], []), ([1], [1]), ([0, 2], [0, 2]), ([], []), ([], []), ([4, 5], [4, 5]), ([3, 6, 3], [3, 6]), ([7, 7, 0, 1, 2, 3, 4, 5, 6, 7], [7])])
def spec_l2Put.B5 : List Nat := [0, 0, 2, 7, 0, 0, 48, 127, 255]
theorem spec_l2Put.tab5 : rtab .any (opsOf Tryd.f77 5) = spec_l2Put.T5 := by kernel_rfl
theorem spec_l2Put.bits5 : waitsOk spec_l2Put.T5.2 spec_l2Put.B5 = true := by kernel_rfl
theorem spec_l2Put.calls (k : Nat) (A0 : Option Addr) (c0 : Nat) (l0 : List (S32)) (a1_0 : ByteArray) (a1_1 : Int) (a1_2 : Int) (a1_3 : Int) (a1_4 : Int) (r : List (S32)) (w : World) (hr0 : Kd.C k32 w A0 l0.length l0) (hc0 : l0.length ≤ c0) (h : spec_l2Put.f k l0 a1_0 a1_1 a1_2 a1_3 a1_4 = some r) :
  Calls Tryd.prog 77 #[.slice A0 l0.length c0, .agg #[.string a1_0, .int .i64 a1_1, .int .i64 a1_2, .int .i64 a1_3, .int .i64 a1_4]] w fun e w' => ∃ v0_ : Value, e = .returned (v0_) ∧ Kd.R k32 32 w' w.heap.size (fun _ => True) v0_ r ∧ Below w.heap.size w w' := by
 have hu32 := Tryd.underlying32
 have HR0 := aa hr0
 have HC0 := aa hc0
 clear hr0 hc0
 have HB := aa (Below.refl w.heap.size w)
 have H : (spec_l2Put.l0 k l0 0 a1_0 a1_1 a1_2 a1_3 a1_4) = some r := h
 clear h
 have H' := aa H
 clear H
 go_enter Tryd.func77, Tryd.ntmps77
 go_wp2_with (first | (refine be_ 3 #[.string a1_0, .int .i64 a1_1, .int .i64 a1_2, .int .i64 a1_3, .int .i64 a1_4] 32 ?_; intro gb101 hg w3 hbox hb; have n0_ := aa (below_step zjjbob hb); have n1_ := aa (hbox); have n2_ := aa ((zkpfjp : w.heap.size ≤ gb101)); have n3_ := aa ((zkpfjp : w.heap.size ≤ gb101)); clear HB; have HB := n0_; have BK101 := n1_; have GW101 := n2_; have GE101 := n3_; clear n0_ n1_ n2_ n3_; clear hb hbox hg))
 go_loopg [5] k (fun kq v5 w' => ∃ (x5_1 : Int), v5 = .int .i64 x5_1 ∧ Aside0 (spec_l2Put.l0 kq l0 x5_1 a1_0 a1_1 a1_2 a1_3 a1_4 = some r) ∧ Aside0 (kq ≤ k) ∧ Aside0 (w'.heap[gb101]? = some (.cells #[.string a1_0, .int .i64 a1_1, .int .i64 a1_2, .int .i64 a1_3, .int .i64 a1_4] 32 (0, 0))) ∧ Aside0 (Below w.heap.size w w'))
 case atStart => exact ⟨(0), zagbkp, H', ⟨Nat.le_refl _⟩, ⟨zkjhpm BK101.out⟩, ⟨zkmbdh⟩⟩
 case round =>
  clear H'
  try clear p2
  obtain ⟨x5_1, rfl, HA, HK1, BK101, HB⟩ := hrel
  cases gk with
  | zero => exact absurd HA.out (by simp [spec_l2Put.l0])
  | succ k1 =>
   have H := HA.out
   clear HA
   simp only [spec_l2Put.l0] at H
   revert H
   refine itD_ (fun c4b0 H => ?_) fun c4b0 H => ?_
   ·
    revert H
    refine itH_ fun c5b0 H => ?_
    revert H
    refine itC_ (fun c6 H => ?_) fun c6 H => ?_
    ·
     have c6b0 : (Op.bytesLess (((rd_T32 l0 x5_1).f0).toList) a1_0.toList) = true := c6
     clear c6
     have H' := aa H
     clear H
     try go_wp2
     replace BK101 := aa (blk_drew BK101.out)
     replace HB := aa (below_drew1 HB.out)
     have p102 : 0 ≤ (x5_1 : Int) := of_decide_eq_true zgglam
     have q102 : x5_1 < (l0.length : Int) := of_decide_eq_true zgglam
     obtain ⟨ad102, e102, hx102_0, hx102_1, hx102_2, hx102_3, hx102_4⟩ := at_T32 HR0.out x5_1 p102 q102
     have hw102_4 := hx102_4
     have hw102_3 := hx102_3
     have hw102_2 := hx102_2
     have hw102_1 := hx102_1
     have hw102_0 := hx102_0
     cases e102
     replace hx102_0 := pb HB.out hx102_0
     replace hx102_1 := pb HB.out hx102_1
     replace hx102_2 := pb HB.out hx102_2
     replace hx102_3 := pb HB.out hx102_3
     replace hx102_4 := pb HB.out hx102_4
     replace p102 := eq_true p102
     replace q102 := eq_true q102
     refine start_ (n := 14) (S := fun w' => w'.cell? ⟨gb101, 0, none⟩ = some (.string a1_0) ∧ w'.cell? ⟨gb101, 1, none⟩ = some (.int .i64 a1_1) ∧ w'.cell? ⟨gb101, 2, none⟩ = some (.int .i64 a1_2) ∧ w'.cell? ⟨gb101, 3, none⟩ = some (.int .i64 a1_3) ∧ w'.cell? ⟨gb101, 4, none⟩ = some (.int .i64 a1_4) ∧ w'.cell? (ad102.add ((x5_1).toNat * 5)) = some (.string ((rd_T32 l0 x5_1).f0)) ∧ w'.cell? ⟨(ad102.add ((x5_1).toNat * 5)).block, (ad102.add ((x5_1).toNat * 5)).off + 1, none⟩ = some (.int .i64 ((rd_T32 l0 x5_1).f1)) ∧ w'.cell? ⟨(ad102.add ((x5_1).toNat * 5)).block, (ad102.add ((x5_1).toNat * 5)).off + 2, none⟩ = some (.int .i64 ((rd_T32 l0 x5_1).f2)) ∧ w'.cell? ⟨(ad102.add ((x5_1).toNat * 5)).block, (ad102.add ((x5_1).toNat * 5)).off + 3, none⟩ = some (.int .i64 ((rd_T32 l0 x5_1).f3)) ∧ w'.cell? ⟨(ad102.add ((x5_1).toNat * 5)).block, (ad102.add ((x5_1).toNat * 5)).off + 4, none⟩ = some (.int .i64 ((rd_T32 l0 x5_1).f4))) (ds := []) #[false, false, false, false, false, false, false, false, false, false, false, false, false, false] (by kernel_rfl) rfl rfl ⟨(blk_cell BK101.out 0).trans rfl, (blk_cell BK101.out 1).trans rfl, (blk_cell BK101.out 2).trans rfl, (blk_cell BK101.out 3).trans rfl, (blk_cell BK101.out 4).trans rfl, ((HB.out.cell (World.block_lt_of_cell? w _ hw102_0)).trans hw102_0), ((HB.out.cell (World.block_lt_of_cell? w _ hw102_1)).trans hw102_1), ((HB.out.cell (World.block_lt_of_cell? w _ hw102_2)).trans hw102_2), ((HB.out.cell (World.block_lt_of_cell? w _ hw102_3)).trans hw102_3), ((HB.out.cell (World.block_lt_of_cell? w _ hw102_4)).trans hw102_4)⟩ (fun hHeld => ?_); refine with_tabW spec_l2Put.tab2 spec_l2Put.bits2 (fun HT_ HW_ => ?_)
     generalize wr.drew = w7 at BK101 HB hx102_0 hx102_1 hx102_2 hx102_3 hx102_4 hHeld ⊢
     refine pu0 0 7 ?_
     refine pu0 1 8 ?_
     refine pu0 2 9 ?_
     refine pu0 3 10 ?_
     refine pu0 4 11 ?_
     refine pu0 5 12 ?_
     refine pu0 6 13 ?_
     refine pu0 7 14 ?_
     refine pu0 8 15 ?_
     refine pu0 10 17 ?_
     refine tk10_0 9 16 ?_
     refine tk10_0 11 18 ?_
     refine pu0 12 19 ?_
     refine pu0 13 20 ?_
     refine done_ (done_of HT_.out (by kernel_rfl)) ?_
     try go_wp2
     go_roundg k1
     case measure => have := HK1.out; omega
     case rel => exact ⟨(wrap64 (x5_1 + 1)), zagbkp, H', ⟨by have := HK1.out; omega⟩, ⟨zkjhpm BK101.out⟩, ⟨zkmbdh⟩⟩
    have c6b0 : (Op.bytesLess (((rd_T32 l0 x5_1).f0).toList) a1_0.toList) = false := by simpa using c6
    clear c6
    revert H
    refine obl_ fun y103 Ny103 H => ?_
    have c8b0 := eq_true (of_decide_eq_true zgglam : 0 ≤ x5_1)
    revert H
    refine itG_ fun c9 H => ?_
    have c9b0 := eq_true c9
    have c9b1 := decide_eq_true c9
    clear c9
    revert H
    refine obl_ fun y106 Ny106 H => ?_
    revert H
    refine itG_ fun c10 H => ?_
    have LMc10 := aa c10
    clear c10
    revert H
    refine obl_ fun y110 Ny110 H => ?_
    revert H
    refine itG_ fun c11 H => ?_
    have LMc11 := aa c11
    clear c11
    revert H
    refine obl_ fun y113 Ny113 H => ?_
    have c12b0 := eq_true (of_decide_eq_true zgglam : 0 ≤ x5_1)
    have c13b0 := eq_true (of_decide_eq_true zgglam : x5_1 ≤ (l0.length : Int))
    revert H
    refine obl_ fun y116 Ny116 H => ?_
    revert H
    refine itG_ fun c14 H => ?_
    have LMc14 := aa c14
    clear c14
    obtain ⟨y120, hy120⟩ : ∃ y_ : List (S32), y_ = (y113 ++ y116) := ⟨_, rfl⟩
    replace H : (some y120) = some r := by cases hy120; exact H
    have Ny120 := aa hy120
    clear hy120
    obtain rfl := Option.some.inj H
    try go_wp2
    replace BK101 := aa (blk_drew BK101.out)
    replace HB := aa (below_drew1 HB.out)
    have p102 : 0 ≤ (x5_1 : Int) := of_decide_eq_true zgglam
    have q102 : x5_1 < (l0.length : Int) := of_decide_eq_true zgglam
    obtain ⟨ad102, e102, hx102_0, hx102_1, hx102_2, hx102_3, hx102_4⟩ := at_T32 HR0.out x5_1 p102 q102
    have hw102_4 := hx102_4
    have hw102_3 := hx102_3
    have hw102_2 := hx102_2
    have hw102_1 := hx102_1
    have hw102_0 := hx102_0
    cases e102
    replace hx102_0 := pb HB.out hx102_0
    replace hx102_1 := pb HB.out hx102_1
    replace hx102_2 := pb HB.out hx102_2
    replace hx102_3 := pb HB.out hx102_3
    replace hx102_4 := pb HB.out hx102_4
    replace p102 := eq_true p102
    replace q102 := eq_true q102
    refine start_ (n := 14) (S := fun w' => w'.cell? ⟨gb101, 0, none⟩ = some (.string a1_0) ∧ w'.cell? ⟨gb101, 1, none⟩ = some (.int .i64 a1_1) ∧ w'.cell? ⟨gb101, 2, none⟩ = some (.int .i64 a1_2) ∧ w'.cell? ⟨gb101, 3, none⟩ = some (.int .i64 a1_3) ∧ w'.cell? ⟨gb101, 4, none⟩ = some (.int .i64 a1_4) ∧ w'.cell? (ad102.add ((x5_1).toNat * 5)) = some (.string ((rd_T32 l0 x5_1).f0)) ∧ w'.cell? ⟨(ad102.add ((x5_1).toNat * 5)).block, (ad102.add ((x5_1).toNat * 5)).off + 1, none⟩ = some (.int .i64 ((rd_T32 l0 x5_1).f1)) ∧ w'.cell? ⟨(ad102.add ((x5_1).toNat * 5)).block, (ad102.add ((x5_1).toNat * 5)).off + 2, none⟩ = some (.int .i64 ((rd_T32 l0 x5_1).f2)) ∧ w'.cell? ⟨(ad102.add ((x5_1).toNat * 5)).block, (ad102.add ((x5_1).toNat * 5)).off + 3, none⟩ = some (.int .i64 ((rd_T32 l0 x5_1).f3)) ∧ w'.cell? ⟨(ad102.add ((x5_1).toNat * 5)).block, (ad102.add ((x5_1).toNat * 5)).off + 4, none⟩ = some (.int .i64 ((rd_T32 l0 x5_1).f4))) (ds := []) #[false, false, false, false, false, false, false, false, false, false, false, false, false, false] (by kernel_rfl) rfl rfl ⟨(blk_cell BK101.out 0).trans rfl, (blk_cell BK101.out 1).trans rfl, (blk_cell BK101.out 2).trans rfl, (blk_cell BK101.out 3).trans rfl, (blk_cell BK101.out 4).trans rfl, ((HB.out.cell (World.block_lt_of_cell? w _ hw102_0)).trans hw102_0), ((HB.out.cell (World.block_lt_of_cell? w _ hw102_1)).trans hw102_1), ((HB.out.cell (World.block_lt_of_cell? w _ hw102_2)).trans hw102_2), ((HB.out.cell (World.block_lt_of_cell? w _ hw102_3)).trans hw102_3), ((HB.out.cell (World.block_lt_of_cell? w _ hw102_4)).trans hw102_4)⟩ (fun hHeld => ?_); refine with_tabW spec_l2Put.tab2 spec_l2Put.bits2 (fun HT_ HW_ => ?_)
    generalize wr.drew = w15 at BK101 HB hx102_0 hx102_1 hx102_2 hx102_3 hx102_4 hHeld ⊢
    refine pu0 0 7 ?_
    refine pu0 1 8 ?_
    refine pu0 2 9 ?_
    refine pu0 3 10 ?_
    refine pu0 4 11 ?_
    refine pu0 5 12 ?_
    refine pu0 6 13 ?_
    refine pu0 7 14 ?_
    refine pu0 8 15 ?_
    refine pu0 10 17 ?_
    refine tk10_0 9 16 ?_
    refine tk10_0 11 18 ?_
    refine pu0 12 19 ?_
    refine pu0 13 20 ?_
    refine done_ (done_of HT_.out (by kernel_rfl)) ?_
    try go_wp2_with (first | ((with_reducible refine gate_dst (N := 23) rfl ?_); refine Kd.R_lit k32 _ 32 ?hg (N := 23) ?hd (xs := ([] : List (S32))) (inner := []) (ok := fun _ => True) (okp := fun _ => True) ?hr ?hp (fun _ hk => hk) trivial (Below.refl _ _) (Nat.le_refl _) (by simp) ?_; (case hd => rfl); (case hg => rfl); (case hr => exact zhlgcp); (case hp => exact (Reps.none _ _)); intro v104 w16 ho17 hb hg_ hnew_; clear hg_ hnew_; (first | rw [← Ny103.out] at ho17 | (simp only [Int.reduceToNat] at ho17; rw [← Ny103.out] at ho17)); have HO105 := aa (Kd.R_lower (Kd.R_newB ho17 (g := gb101) (o := .cells #[.string a1_0, .int .i64 a1_1, .int .i64 a1_2, .int .i64 a1_3, .int .i64 a1_4] 32 (0, 0)) (zkjhpm BK101.out)) (below_size zkmbdh)); replace BK101 := aa (bb_ BK101.out hb); replace HB := aa (below_step zkmbdh hb); clear hb ho17; have q18 : (x5_1 : Int) ≤ ((l0.length : Int) : Int) := of_decide_eq_true zgglam; obtain ⟨i018, hi018, _, hsz18, _⟩ := info_parts info32; have hroom18 : l0.length ≤ c0 := HC0.out; have hC18 : Kd.C k32 _ (some ad102) l0.length l0 := HR0.out; have hcut18 := cut_to (P := Tryd.prog) 24 32 .i64 Tryd.underlying24 hi018 (some ad102) l0.length c0 x5_1 (of_decide_eq_true zgglam) q18 hroom18; have hr18 := Kd.C_take (m := (x5_1 : Int).toNat) hC18 (by omega); have hy18 : y106.length = (x5_1 : Int).toNat := (by rw [Ny106.out, List.length_take]; omega); rw [← Ny106.out] at hr18; rw [← hy18] at hcut18; have HR109 := aa hr18; have HC109 := aa (show y106.length ≤ c0 from by omega); clear hr18 hC18 hroom18 hi018 hsz18; have KY18 := aa hy18; clear hy18; replace q18 := eq_true q18) | ((with_reducible refine gate_builtin (b := .append) (xs := #[.tmp 23, .tmp 26]) rfl ?_); at_builtin; refine Kd.R_append_rows k32 (w0 := w) w.heap.size rfl (.tmp 23) (.tmp 26) 24 32 (.agg #[(.string ⟨#[]⟩), (.int .i64 0), (.int .i64 0), (.int .i64 0), (.int .i64 0)]) 48 rfl Tryd.underlying24 info32 rfl (by decide) (by omega) v104 y103 y106 _ _ _ (fun k_ => k_ ≠ gb101) (fun _ => False) rfl rfl ?aO ?aR (fun _ _ h => h) (fun _ h => h.elim) ?aF ?aB ?aS ?aL ?_; (case aR => repeat (first | exact (Kd.C_below HR109.out HB.out) | (with_reducible refine Kd.C_alloc ?_ _) | (with_reducible refine Kd.C_drewN ?_ _) | (with_reducible refine Kd.C_drew ?_))); (case aB => exact zkmbdh); (case aF => exact zglngh); (case aO => exact (by (with_reducible repeat (first | apply Kd.R_alloc | apply Kd.R_drewN | apply Kd.R_drew)); exact Kd.R_mono HO105.out (fun _ hk => hk.2))); (case aS => exact (below_size zkmbdh)); (case aL => have := LMc10.out; omega); intro v111 w19 ho hb hg hat; rw [← Ny110.out] at ho; replace BK101 := aa (blk_grown (g := gb101) (o := .cells #[.string a1_0, .int .i64 a1_1, .int .i64 a1_2, .int .i64 a1_3, .int .i64 a1_4] 32 (0, 0)) (zkjhpm BK101.out) hg (Kd.R_away HO105.out (fun _ hk => hk.2))); replace HB := aa (hb); have HO112 := aa (ho); clear HO105; clear ho hb hg hat))
    replace HO112 := aa (Kd.R_drew HO112.out)
    replace BK101 := aa (blk_drew BK101.out)
    replace HB := aa (below_drew1 HB.out)
    have q21 : (x5_1 : Int) ≤ ((l0.length : Int) : Int) := of_decide_eq_true zgglam
    obtain ⟨i021, hi021, _, hsz21, _⟩ := info_parts info32
    have hroom21 : l0.length ≤ c0 := HC0.out
    have hC21 : Kd.C k32 _ (some ad102) l0.length l0 := HR0.out
    have q021 : (0 : Int) ≤ (x5_1 : Int) := of_decide_eq_true zgglam
    have hcut21 := cut_from (P := Tryd.prog) 24 32 .i64 Tryd.underlying24 hi021 5 hsz21 (some ad102) l0.length c0 x5_1 q021 q21
    have hr21 := Kd.C_drop (m := (x5_1 : Int).toNat) (c := c0) hC21 (by omega) hroom21
    obtain ⟨A21, hA21⟩ : ∃ A1, A1 = (if c0 = (x5_1 : Int).toNat then (some ad102) else ((some ad102) : Option Addr).map (·.add ((x5_1 : Int).toNat * 5))) := ⟨_, rfl⟩
    obtain ⟨c21, hc21⟩ : ∃ c1, c1 = c0 - (x5_1 : Int).toNat := ⟨_, rfl⟩
    have hy21 : y116.length = l0.length - (x5_1 : Int).toNat := (by rw [Ny116.out, List.length_drop] <;> omega)
    rw [show (l0).drop (x5_1 : Int).toNat = y116 from Ny116.out.symm] at hr21
    replace hr21 : Kd.C k32 _ A21 y116.length y116 := (by rw [hA21]; exact hr21)
    rw [← hy21, ← hA21, ← hc21] at hcut21
    have HR119 := aa hr21
    have HC119 := aa (show y116.length ≤ c21 from by rw [hy21, hc21]; exact Nat.sub_le_sub_right hroom21 _)
    clear hr21 hC21 hroom21 hi021 hsz21 hc21
    have KY21 := aa hy21
    have KA21 := aa hA21
    clear hy21 hA21
    replace q21 := eq_true q21
    refine start_ (n := 9) (S := fun w' => w'.cell? ⟨gb101, 0, none⟩ = some (.string a1_0) ∧ w'.cell? ⟨gb101, 1, none⟩ = some (.int .i64 a1_1) ∧ w'.cell? ⟨gb101, 2, none⟩ = some (.int .i64 a1_2) ∧ w'.cell? ⟨gb101, 3, none⟩ = some (.int .i64 a1_3) ∧ w'.cell? ⟨gb101, 4, none⟩ = some (.int .i64 a1_4)) (ds := []) #[false, false, false, false, false, false, false, false, false] (by kernel_rfl) rfl rfl ⟨(blk_cell BK101.out 0).trans rfl, (blk_cell BK101.out 1).trans rfl, (blk_cell BK101.out 2).trans rfl, (blk_cell BK101.out 3).trans rfl, (blk_cell BK101.out 4).trans rfl⟩ (fun hHeld => ?_); refine with_tabW spec_l2Put.tab5 spec_l2Put.bits5 (fun HT_ HW_ => ?_)
    generalize w19.drew = w20 at HO112 BK101 HB HR119 hHeld ⊢
    refine pu0 0 28 ?_
    refine pu0 4 32 ?_
    refine pu0 5 33 ?_
    refine pu0 6 34 ?_
    refine tk5_0 1 29 ?_
    refine one_ (i := 2) (N := some 30) #[true, true, true, false, true, true, true, false, false] rfl rfl (one_of HT_.out (by kernel_rfl)) (by decide) (fun K hK => ?_)
    refine value_ (w1 := ?_) (v := ?_) (by rfl) rfl ?_ ?_
    rotate_left 2
    ·
     go_simp
     constructor
     ·
      rfl
     rfl
    refine hK.out _ _ ⟨(blk_cell (blk_alloc BK101.out _) 0).trans rfl, (blk_cell (blk_alloc BK101.out _) 1).trans rfl, (blk_cell (blk_alloc BK101.out _) 2).trans rfl, (blk_cell (blk_alloc BK101.out _) 3).trans rfl, (blk_cell (blk_alloc BK101.out _) 4).trans rfl⟩ (fun hHeld => ?_)
    clear hK K
    refine norm_ (a' := ?_) ?_ ?_
    rotate_left
    ·
     show Act.put _ (some 30) _ = _
     simp only [Act.put, List.setIfInBounds_toArray, List.set_cons_zero, List.set_cons_succ, i64_w, i32_w]
     rfl
    refine one_ (i := 3) (N := some 31) #[true, true, true, true, true, true, true, false, false] rfl rfl (one_of HT_.out (by kernel_rfl)) (by decide) (fun K hK => ?_)
    refine Kd.R_append_step k32 (w0 := w) w.heap.size (by rfl) (.tmp 28) (.tmp 30) 24 32 (.agg #[(.string ⟨#[]⟩), (.int .i64 0), (.int .i64 0), (.int .i64 0), (.int .i64 0)]) 48 rfl Tryd.underlying24 info32 rfl (by decide) (by omega) v111 y110 (⟨a1_0, a1_1, a1_2, a1_3, a1_4⟩ : S32) [.string a1_0, .int .i64 a1_1, .int .i64 a1_2, .int .i64 a1_3, .int .i64 a1_4] (fun k_ => k_ ≠ gb101) (fun _ => False) rfl rfl ?aP (fun _ hk => hk.elim) ?aF ?aO ?aB ?aS ?aL ?_
    (case aP => exact k32_mkM _ _ _ (⟨a1_0, a1_1, a1_2, a1_3, a1_4⟩ : S32))
    (case aB => exact zkmbdh)
    (case aF => exact zglngh)
    (case aO => exact (zcaken HO112.out))
    (case aS => exact (below_size zkmbdh))
    (case aL => have := LMc11.out; omega)
    intro v114 w22 ho hb hg hat
    rw [← Ny113.out] at ho
    replace BK101 := aa (blk_grown (g := gb101) (o := .cells #[.string a1_0, .int .i64 a1_1, .int .i64 a1_2, .int .i64 a1_3, .int .i64 a1_4] 32 (0, 0)) (zkjhpm BK101.out) hg (Kd.R_away HO112.out (fun _ hk => hk)))
    replace HB := aa (hb)
    have HO115 := aa (ho)
    clear HO112
    clear ho hb hg hat
    refine hK.out _ _ ⟨(blk_cell BK101.out 0).trans rfl, (blk_cell BK101.out 1).trans rfl, (blk_cell BK101.out 2).trans rfl, (blk_cell BK101.out 3).trans rfl, (blk_cell BK101.out 4).trans rfl⟩ (fun hHeld => ?_)
    clear hK K
    refine norm_ (a' := ?_) ?_ ?_
    rotate_left
    ·
     show Act.put _ (some 31) _ = _
     simp only [Act.put, List.setIfInBounds_toArray, List.set_cons_zero, List.set_cons_succ, i64_w, i32_w]
     rfl
    refine one_ (i := 7) (N := some 35) #[true, true, true, true, true, true, true, true, false] rfl rfl (one_of HT_.out (by kernel_rfl)) (by decide) (fun K hK => ?_)
    refine Kd.R_append_rows_step k32 (w0 := w) w.heap.size (by rfl) (.tmp 31) (.tmp 34) 24 32 (.agg #[(.string ⟨#[]⟩), (.int .i64 0), (.int .i64 0), (.int .i64 0), (.int .i64 0)]) 48 rfl Tryd.underlying24 info32 rfl (by decide) (by omega) v114 y113 y116 _ _ _ (fun k_ => k_ ≠ gb101) (fun _ => False) rfl rfl ?aO ?aR (fun _ _ h => h) (fun _ h => h.elim) ?aF ?aB ?aS ?aL ?_
    (case aR => repeat (first | exact (Kd.C_below HR119.out HB.out) | (with_reducible refine Kd.C_alloc ?_ _) | (with_reducible refine Kd.C_drewN ?_ _) | (with_reducible refine Kd.C_drew ?_)))
    (case aB => exact zkmbdh)
    (case aF => exact zglngh)
    (case aO => exact (zcaken HO115.out))
    (case aS => exact (below_size zkmbdh))
    (case aL => have := LMc14.out; omega)
    intro v121 w23 ho hb hg hat
    rw [← Ny120.out] at ho
    replace BK101 := aa (blk_grown (g := gb101) (o := .cells #[.string a1_0, .int .i64 a1_1, .int .i64 a1_2, .int .i64 a1_3, .int .i64 a1_4] 32 (0, 0)) (zkjhpm BK101.out) hg (Kd.R_away HO115.out (fun _ hk => hk)))
    replace HB := aa (hb)
    have HO122 := aa (ho)
    clear HO115
    clear ho hb hg hat
    refine hK.out _ _ ⟨(blk_cell BK101.out 0).trans rfl, (blk_cell BK101.out 1).trans rfl, (blk_cell BK101.out 2).trans rfl, (blk_cell BK101.out 3).trans rfl, (blk_cell BK101.out 4).trans rfl⟩ (fun hHeld => ?_)
    clear hK K
    refine norm_ (a' := ?_) ?_ ?_
    rotate_left
    ·
     show Act.put _ (some 35) _ = _
     simp only [Act.put, List.setIfInBounds_toArray, List.set_cons_zero, List.set_cons_succ, i64_w, i32_w]
     rfl
    refine pu0 8 4 ?_
    refine done_ (done_of HT_.out (by kernel_rfl)) ?_
    try go_wp2
    go_ret
    exact ⟨_, zlhpib, by (with_reducible repeat (first | apply Kd.R_alloc | apply Kd.R_drewN | apply Kd.R_drew)); exact Kd.R_mono HO122.out (fun _ hk => trivial), zkmbdh⟩
   ·
    revert H
    refine obl_ fun y123 Ny123 H => ?_
    revert H
    refine itG_ fun c24 H => ?_
    have c24b0 := eq_true c24
    have c24b1 := decide_eq_true c24
    clear c24
    revert H
    refine itG_ fun c25 H => ?_
    have c25b0 := eq_true c25
    have c25b1 := decide_eq_true c25
    clear c25
    revert H
    refine obl_ fun y126 Ny126 H => ?_
    revert H
    refine itG_ fun c26 H => ?_
    have LMc26 := aa c26
    clear c26
    revert H
    refine obl_ fun y130 Ny130 H => ?_
    revert H
    refine itG_ fun c27 H => ?_
    have LMc27 := aa c27
    clear c27
    revert H
    refine obl_ fun y133 Ny133 H => ?_
    have c28b0 := eq_true (of_decide_eq_true zgglam : 0 ≤ x5_1)
    have c29b0 := eq_true (of_decide_eq_true zgglam : x5_1 ≤ (l0.length : Int))
    revert H
    refine obl_ fun y136 Ny136 H => ?_
    revert H
    refine itG_ fun c30 H => ?_
    have LMc30 := aa c30
    clear c30
    obtain ⟨y140, hy140⟩ : ∃ y_ : List (S32), y_ = (y133 ++ y136) := ⟨_, rfl⟩
    replace H : (some y140) = some r := by cases hy140; exact H
    have Ny140 := aa hy140
    clear hy140
    obtain rfl := Option.some.inj H
    try go_wp2
    replace BK101 := aa (blk_drew BK101.out)
    replace HB := aa (below_drew1 HB.out)
    refine start_ (n := 14) (S := fun w' => True) (ds := []) #[false, false, false, false, false, false, false, false, false, false, false, false, false, false] (by kernel_rfl) rfl rfl trivial (fun hHeld => ?_); refine with_tabW spec_l2Put.tab2 spec_l2Put.bits2 (fun HT_ HW_ => ?_)
    generalize wr.drew = w31 at BK101 HB hHeld ⊢
    refine pu0 0 7 ?_
    refine pu0 1 8 ?_
    refine pu0 2 9 ?_
    refine pu0 3 10 ?_
    refine pu0 4 11 ?_
    refine pn0 5 12 ?_
    refine pn0 6 13 ?_
    refine pn0 7 14 ?_
    refine pn0 8 15 ?_
    refine pn0 9 16 ?_
    refine pn0 10 17 ?_
    refine pn0 11 18 ?_
    refine pn0 12 19 ?_
    refine pu0 13 20 ?_
    refine done_ (done_of HT_.out (by kernel_rfl)) ?_
    try go_wp2_with (first | ((with_reducible refine gate_dst (N := 23) rfl ?_); refine Kd.R_lit k32 _ 32 ?hg (N := 23) ?hd (xs := ([] : List (S32))) (inner := []) (ok := fun _ => True) (okp := fun _ => True) ?hr ?hp (fun _ hk => hk) trivial (Below.refl _ _) (Nat.le_refl _) (by simp) ?_; (case hd => rfl); (case hg => rfl); (case hr => exact zhlgcp); (case hp => exact (Reps.none _ _)); intro v124 w32 ho33 hb hg_ hnew_; clear hg_ hnew_; (first | rw [← Ny123.out] at ho33 | (simp only [Int.reduceToNat] at ho33; rw [← Ny123.out] at ho33)); have HO125 := aa (Kd.R_lower (Kd.R_newB ho33 (g := gb101) (o := .cells #[.string a1_0, .int .i64 a1_1, .int .i64 a1_2, .int .i64 a1_3, .int .i64 a1_4] 32 (0, 0)) (zkjhpm BK101.out)) (below_size zkmbdh)); replace BK101 := aa (bb_ BK101.out hb); replace HB := aa (below_step zkmbdh hb); clear hb ho33; have q34 : (x5_1 : Int) ≤ ((l0.length : Int) : Int) := of_decide_eq_true zgglam; obtain ⟨i034, hi034, _, hsz34, _⟩ := info_parts info32; have hroom34 : l0.length ≤ c0 := HC0.out; have hC34 : Kd.C k32 _ A0 l0.length l0 := HR0.out; have hcut34 := cut_to (P := Tryd.prog) 24 32 .i64 Tryd.underlying24 hi034 A0 l0.length c0 x5_1 (of_decide_eq_true zgglam) q34 hroom34; have hr34 := Kd.C_take (m := (x5_1 : Int).toNat) hC34 (by omega); have hy34 : y126.length = (x5_1 : Int).toNat := (by rw [Ny126.out, List.length_take]; omega); rw [← Ny126.out] at hr34; rw [← hy34] at hcut34; have HR129 := aa hr34; have HC129 := aa (show y126.length ≤ c0 from by omega); clear hr34 hC34 hroom34 hi034 hsz34; have KY34 := aa hy34; clear hy34; replace q34 := eq_true q34) | ((with_reducible refine gate_builtin (b := .append) (xs := #[.tmp 23, .tmp 26]) rfl ?_); at_builtin; refine Kd.R_append_rows k32 (w0 := w) w.heap.size rfl (.tmp 23) (.tmp 26) 24 32 (.agg #[(.string ⟨#[]⟩), (.int .i64 0), (.int .i64 0), (.int .i64 0), (.int .i64 0)]) 48 rfl Tryd.underlying24 info32 rfl (by decide) (by omega) v124 y123 y126 _ _ _ (fun k_ => k_ ≠ gb101) (fun _ => False) rfl rfl ?aO ?aR (fun _ _ h => h) (fun _ h => h.elim) ?aF ?aB ?aS ?aL ?_; (case aR => repeat (first | exact (Kd.C_below HR129.out HB.out) | (with_reducible refine Kd.C_alloc ?_ _) | (with_reducible refine Kd.C_drewN ?_ _) | (with_reducible refine Kd.C_drew ?_))); (case aB => exact zkmbdh); (case aF => exact zglngh); (case aO => exact (by (with_reducible repeat (first | apply Kd.R_alloc | apply Kd.R_drewN | apply Kd.R_drew)); exact Kd.R_mono HO125.out (fun _ hk => hk.2))); (case aS => exact (below_size zkmbdh)); (case aL => have := LMc26.out; omega); intro v131 w35 ho hb hg hat; rw [← Ny130.out] at ho; replace BK101 := aa (blk_grown (g := gb101) (o := .cells #[.string a1_0, .int .i64 a1_1, .int .i64 a1_2, .int .i64 a1_3, .int .i64 a1_4] 32 (0, 0)) (zkjhpm BK101.out) hg (Kd.R_away HO125.out (fun _ hk => hk.2))); replace HB := aa (hb); have HO132 := aa (ho); clear HO125; clear ho hb hg hat))
    replace HO132 := aa (Kd.R_drew HO132.out)
    replace BK101 := aa (blk_drew BK101.out)
    replace HB := aa (below_drew1 HB.out)
    have q37 : (x5_1 : Int) ≤ ((l0.length : Int) : Int) := of_decide_eq_true zgglam
    obtain ⟨i037, hi037, _, hsz37, _⟩ := info_parts info32
    have hroom37 : l0.length ≤ c0 := HC0.out
    have hC37 : Kd.C k32 _ A0 l0.length l0 := HR0.out
    have q037 : (0 : Int) ≤ (x5_1 : Int) := of_decide_eq_true zgglam
    have hcut37 := cut_from (P := Tryd.prog) 24 32 .i64 Tryd.underlying24 hi037 5 hsz37 A0 l0.length c0 x5_1 q037 q37
    have hr37 := Kd.C_drop (m := (x5_1 : Int).toNat) (c := c0) hC37 (by omega) hroom37
    obtain ⟨A37, hA37⟩ : ∃ A1, A1 = (if c0 = (x5_1 : Int).toNat then A0 else (A0 : Option Addr).map (·.add ((x5_1 : Int).toNat * 5))) := ⟨_, rfl⟩
    obtain ⟨c37, hc37⟩ : ∃ c1, c1 = c0 - (x5_1 : Int).toNat := ⟨_, rfl⟩
    have hy37 : y136.length = l0.length - (x5_1 : Int).toNat := (by rw [Ny136.out, List.length_drop] <;> omega)
    rw [show (l0).drop (x5_1 : Int).toNat = y136 from Ny136.out.symm] at hr37
    replace hr37 : Kd.C k32 _ A37 y136.length y136 := (by rw [hA37]; exact hr37)
    rw [← hy37, ← hA37, ← hc37] at hcut37
    have HR139 := aa hr37
    have HC139 := aa (show y136.length ≤ c37 from by rw [hy37, hc37]; exact Nat.sub_le_sub_right hroom37 _)
    clear hr37 hC37 hroom37 hi037 hsz37 hc37
    have KY37 := aa hy37
    have KA37 := aa hA37
    clear hy37 hA37
    replace q37 := eq_true q37
    refine start_ (n := 9) (S := fun w' => w'.cell? ⟨gb101, 0, none⟩ = some (.string a1_0) ∧ w'.cell? ⟨gb101, 1, none⟩ = some (.int .i64 a1_1) ∧ w'.cell? ⟨gb101, 2, none⟩ = some (.int .i64 a1_2) ∧ w'.cell? ⟨gb101, 3, none⟩ = some (.int .i64 a1_3) ∧ w'.cell? ⟨gb101, 4, none⟩ = some (.int .i64 a1_4)) (ds := []) #[false, false, false, false, false, false, false, false, false] (by kernel_rfl) rfl rfl ⟨(blk_cell BK101.out 0).trans rfl, (blk_cell BK101.out 1).trans rfl, (blk_cell BK101.out 2).trans rfl, (blk_cell BK101.out 3).trans rfl, (blk_cell BK101.out 4).trans rfl⟩ (fun hHeld => ?_); refine with_tabW spec_l2Put.tab5 spec_l2Put.bits5 (fun HT_ HW_ => ?_)
    generalize w35.drew = w36 at HO132 BK101 HB HR139 hHeld ⊢
    refine pu0 0 28 ?_
    refine pu0 4 32 ?_
    refine pu0 5 33 ?_
    refine pu0 6 34 ?_
    refine tk5_0 1 29 ?_
    refine one_ (i := 2) (N := some 30) #[true, true, true, false, true, true, true, false, false] rfl rfl (one_of HT_.out (by kernel_rfl)) (by decide) (fun K hK => ?_)
    refine value_ (w1 := ?_) (v := ?_) (by rfl) rfl ?_ ?_
    rotate_left 2
    ·
     go_simp
     constructor
     ·
      rfl
     rfl
    refine hK.out _ _ ⟨(blk_cell (blk_alloc BK101.out _) 0).trans rfl, (blk_cell (blk_alloc BK101.out _) 1).trans rfl, (blk_cell (blk_alloc BK101.out _) 2).trans rfl, (blk_cell (blk_alloc BK101.out _) 3).trans rfl, (blk_cell (blk_alloc BK101.out _) 4).trans rfl⟩ (fun hHeld => ?_)
    clear hK K
    refine norm_ (a' := ?_) ?_ ?_
    rotate_left
    ·
     show Act.put _ (some 30) _ = _
     simp only [Act.put, List.setIfInBounds_toArray, List.set_cons_zero, List.set_cons_succ, i64_w, i32_w]
     rfl
    refine one_ (i := 3) (N := some 31) #[true, true, true, true, true, true, true, false, false] rfl rfl (one_of HT_.out (by kernel_rfl)) (by decide) (fun K hK => ?_)
    refine Kd.R_append_step k32 (w0 := w) w.heap.size (by rfl) (.tmp 28) (.tmp 30) 24 32 (.agg #[(.string ⟨#[]⟩), (.int .i64 0), (.int .i64 0), (.int .i64 0), (.int .i64 0)]) 48 rfl Tryd.underlying24 info32 rfl (by decide) (by omega) v131 y130 (⟨a1_0, a1_1, a1_2, a1_3, a1_4⟩ : S32) [.string a1_0, .int .i64 a1_1, .int .i64 a1_2, .int .i64 a1_3, .int .i64 a1_4] (fun k_ => k_ ≠ gb101) (fun _ => False) rfl rfl ?aP (fun _ hk => hk.elim) ?aF ?aO ?aB ?aS ?aL ?_
    (case aP => exact k32_mkM _ _ _ (⟨a1_0, a1_1, a1_2, a1_3, a1_4⟩ : S32))
    (case aB => exact zkmbdh)
    (case aF => exact zglngh)
    (case aO => exact (zcaken HO132.out))
    (case aS => exact (below_size zkmbdh))
    (case aL => have := LMc27.out; omega)
    intro v134 w38 ho hb hg hat
    rw [← Ny133.out] at ho
    replace BK101 := aa (blk_grown (g := gb101) (o := .cells #[.string a1_0, .int .i64 a1_1, .int .i64 a1_2, .int .i64 a1_3, .int .i64 a1_4] 32 (0, 0)) (zkjhpm BK101.out) hg (Kd.R_away HO132.out (fun _ hk => hk)))
    replace HB := aa (hb)
    have HO135 := aa (ho)
    clear HO132
    clear ho hb hg hat
    refine hK.out _ _ ⟨(blk_cell BK101.out 0).trans rfl, (blk_cell BK101.out 1).trans rfl, (blk_cell BK101.out 2).trans rfl, (blk_cell BK101.out 3).trans rfl, (blk_cell BK101.out 4).trans rfl⟩ (fun hHeld => ?_)
    clear hK K
    refine norm_ (a' := ?_) ?_ ?_
    rotate_left
    ·
     show Act.put _ (some 31) _ = _
     simp only [Act.put, List.setIfInBounds_toArray, List.set_cons_zero, List.set_cons_succ, i64_w, i32_w]
     rfl
    refine one_ (i := 7) (N := some 35) #[true, true, true, true, true, true, true, true, false] rfl rfl (one_of HT_.out (by kernel_rfl)) (by decide) (fun K hK => ?_)
    refine Kd.R_append_rows_step k32 (w0 := w) w.heap.size (by rfl) (.tmp 31) (.tmp 34) 24 32 (.agg #[(.string ⟨#[]⟩), (.int .i64 0), (.int .i64 0), (.int .i64 0), (.int .i64 0)]) 48 rfl Tryd.underlying24 info32 rfl (by decide) (by omega) v134 y133 y136 _ _ _ (fun k_ => k_ ≠ gb101) (fun _ => False) rfl rfl ?aO ?aR (fun _ _ h => h) (fun _ h => h.elim) ?aF ?aB ?aS ?aL ?_
    (case aR => repeat (first | exact (Kd.C_below HR139.out HB.out) | (with_reducible refine Kd.C_alloc ?_ _) | (with_reducible refine Kd.C_drewN ?_ _) | (with_reducible refine Kd.C_drew ?_)))
    (case aB => exact zkmbdh)
    (case aF => exact zglngh)
    (case aO => exact (zcaken HO135.out))
    (case aS => exact (below_size zkmbdh))
    (case aL => have := LMc30.out; omega)
    intro v141 w39 ho hb hg hat
    rw [← Ny140.out] at ho
    replace BK101 := aa (blk_grown (g := gb101) (o := .cells #[.string a1_0, .int .i64 a1_1, .int .i64 a1_2, .int .i64 a1_3, .int .i64 a1_4] 32 (0, 0)) (zkjhpm BK101.out) hg (Kd.R_away HO135.out (fun _ hk => hk)))
    replace HB := aa (hb)
    have HO142 := aa (ho)
    clear HO135
    clear ho hb hg hat
    refine hK.out _ _ ⟨(blk_cell BK101.out 0).trans rfl, (blk_cell BK101.out 1).trans rfl, (blk_cell BK101.out 2).trans rfl, (blk_cell BK101.out 3).trans rfl, (blk_cell BK101.out 4).trans rfl⟩ (fun hHeld => ?_)
    clear hK K
    refine norm_ (a' := ?_) ?_ ?_
    rotate_left
    ·
     show Act.put _ (some 35) _ = _
     simp only [Act.put, List.setIfInBounds_toArray, List.set_cons_zero, List.set_cons_succ, i64_w, i32_w]
     rfl
    refine pu0 8 4 ?_
    refine done_ (done_of HT_.out (by kernel_rfl)) ?_
    try go_wp2
    go_ret
    exact ⟨_, zlhpib, by (with_reducible repeat (first | apply Kd.R_alloc | apply Kd.R_drewN | apply Kd.R_drew)); exact Kd.R_mono HO142.out (fun _ hk => trivial), zkmbdh⟩
mutual
def spec_l2Create.j0 : Nat → List (S32) → ByteArray → Int → Int → Bool → Bool → Option (Int × ByteArray × (List (S32)))
 | 0, _, _, _, _, _, _ => none
 | k + 1, x0, x1, x2, x3, x4, x23 => if x23 = true then ((spec_l2Bad.f 3).bind fun bt104 => (some (bt104.1, bt104.2.1, bt104.2.2))) else (if x1.toList = ([47] : List UInt8) then ((spec_l2Bad.f 1).bind fun bt109 => (some (bt109.1, bt109.2.1, bt109.2.2))) else ((spec_l1Parent.f k x1).bind fun t114 => ((spec_l2At.f k x0 t114).bind fun t115 => (if t115 < 0 then ((spec_l2Bad.f 4).bind fun bt116 => (some (bt116.1, bt116.2.1, bt116.2.2))) else (if 0 ≤ t115 then (if t115 < (x0.length : Int) then (if ((rd_T32 x0 t115).f3) = 0 then ((spec_l2Copy.f x0).bind fun t127 => (if x4 = true then (if ((rd_T32 x0 t115).f4) ≥ 100 then ((spec_l2Bad.f 3).bind fun bt131 => (some (bt131.1, bt131.2.1, bt131.2.2))) else ((spec_l1Last.f k x1).bind fun t136 => (if 0 ≤ (wrap64 (t136 + 1)) then (if (wrap64 (t136 + 1)) ≤ (x1.size : Int) then ((spec_l1Seq.f k (x1.extract ((wrap64 (t136 + 1)) : Int).toNat x1.size) ((rd_T32 x0 t115).f4)).bind fun t137 => ((spec_l1Name.f k t137).bind fun t138 => (if t138 = true then ((spec_l1Parent.f k x1).bind fun t144 => ((spec_l1Seq.f k (x1.extract ((wrap64 (t136 + 1)) : Int).toNat x1.size) ((rd_T32 x0 t115).f4)).bind fun t145 => ((spec_l1Join.f t144 t145).bind fun t146 => ((spec_l1Fault.f k t146).bind fun t147 => (if t147 = 0 then (if t115 < (t127.length : Int) then (spec_l2Create.j1 k x0 t146 x2 x3 (t127.set (t115 : Int).toNat (⟨(rd_T32 t127 t115).f0, (rd_T32 t127 t115).f1, (rd_T32 t127 t115).f2, (rd_T32 t127 t115).f3, wrap64 (((rd_T32 x0 t115).f4) + 1)⟩ : S32))) else (none)) else ((spec_l2Bad.f t147).bind fun bt149 => (some (bt149.1, bt149.2.1, bt149.2.2)))))))) else ((spec_l2Bad.f 5).bind fun bt139 => (some (bt139.1, bt139.2.1, bt139.2.2)))))) else (none)) else (none)))) else (spec_l2Create.j1 k x0 x1 x2 x3 t127))) else ((spec_l2Bad.f 8).bind fun bt122 => (some (bt122.1, bt122.2.1, bt122.2.2)))) else (none)) else (none))))))
def spec_l2Create.j1 : Nat → List (S32) → ByteArray → Int → Int → List (S32) → Option (Int × ByteArray × (List (S32)))
 | 0, _, _, _, _, _ => none
 | k + 1, x0, x1, x2, x3, x12 => (spec_l2At.f k x0 x1).bind fun t154 => (if t154 ≥ 0 then ((spec_l2Bad.f 6).bind fun bt155 => (some (bt155.1, bt155.2.1, bt155.2.2))) else (if (x0.length : Int) ≥ 20 then ((spec_l2Bad.f 2).bind fun bt160 => (some (bt160.1, bt160.2.1, bt160.2.2))) else ((spec_l2Put.f k x12 x1 x2 0 x3 0).bind fun t165 => (some (0, x1, t165)))))
end
def spec_l2Create.f (k : Nat) (l0 : List (S32)) (a1 : ByteArray) (a2 : Int) (a3 : Int) (a4 : Bool) : Option (Int × ByteArray × (List (S32))) := (spec_l2Data.f a2).bind fun t102 => (if t102 = true then ((spec_l2Owner.f a3).bind fun t103 => (spec_l2Create.j0 k l0 a1 a2 a3 a4 (!t103))) else (spec_l2Create.j0 k l0 a1 a2 a3 a4 true))
theorem spec_l2Create.mono_l : ∀ k, (∀ y0 y1 y2 y3 y4 y5, LeO (spec_l2Create.j0 k y0 y1 y2 y3 y4 y5) (spec_l2Create.j0 (k + 1) y0 y1 y2 y3 y4 y5)) ∧ (∀ y0 y1 y2 y3 y4, LeO (spec_l2Create.j1 k y0 y1 y2 y3 y4) (spec_l2Create.j1 (k + 1) y0 y1 y2 y3 y4))
 | 0 => ⟨fun _ _ _ _ _ _ r h => by simp [spec_l2Create.j0] at h, fun _ _ _ _ _ r h => by simp [spec_l2Create.j1] at h⟩
 | k + 1 => by
  obtain ⟨ih0, ih1⟩ := spec_l2Create.mono_l k
  refine ⟨?_, ?_⟩
  ·
   intro y0 y1 y2 y3 y4 y5
   unfold spec_l2Create.j0
   with_reducible repeat' first | exact ih0 _ _ _ _ _ _ | exact ih1 _ _ _ _ _ | exact spec_l1Fault.mono _ _ | exact spec_l1Last.mono _ _ | exact spec_l1Name.mono _ _ | exact spec_l1Parent.mono _ _ | exact spec_l1Seq.mono _ _ _ | exact spec_l2At.mono _ _ _ | exact spec_l2Put.mono _ _ _ _ _ _ _ | exact LeO.refl _ | exact LeO.none _ | refine LeO.ite ?_ ?_ | refine LeO.bind ?_ (fun _ => ?_)
  ·
   intro y0 y1 y2 y3 y4
   unfold spec_l2Create.j1
   with_reducible repeat' first | exact ih0 _ _ _ _ _ _ | exact ih1 _ _ _ _ _ | exact spec_l1Fault.mono _ _ | exact spec_l1Last.mono _ _ | exact spec_l1Name.mono _ _ | exact spec_l1Parent.mono _ _ | exact spec_l1Seq.mono _ _ _ | exact spec_l2At.mono _ _ _ | exact spec_l2Put.mono _ _ _ _ _ _ _ | exact LeO.refl _ | exact LeO.none _ | refine LeO.ite ?_ ?_ | refine LeO.bind ?_ (fun _ => ?_)
theorem spec_l2Create.mono : ∀ a0 a1 a2 a3 a4 k, LeO (spec_l2Create.f k a0 a1 a2 a3 a4) (spec_l2Create.f (k + 1) a0 a1 a2 a3 a4) := by
 intro a0 a1 a2 a3 a4 k
 obtain ⟨ih0, ih1⟩ := spec_l2Create.mono_l k
 unfold spec_l2Create.f
 with_reducible repeat' first | exact ih0 _ _ _ _ _ _ | exact ih1 _ _ _ _ _ | exact spec_l1Fault.mono _ _ | exact spec_l1Last.mono _ _ | exact spec_l1Name.mono _ _ | exact spec_l1Parent.mono _ _ | exact spec_l1Seq.mono _ _ _ | exact spec_l2At.mono _ _ _ | exact spec_l2Put.mono _ _ _ _ _ _ _ | exact LeO.refl _ | exact LeO.none _ | refine LeO.ite ?_ ?_ | refine LeO.bind ?_ (fun _ => ?_)
theorem spec_l2Create.calls (k : Nat) (A0 : Option Addr) (c0 : Nat) (l0 : List (S32)) (a1 : ByteArray) (a2 : Int) (a3 : Int) (a4 : Bool) (r1 : Int) (r2 : ByteArray) (r3 : List (S32)) (w : World) (hr0 : Kd.C k32 w A0 l0.length l0) (hc0 : l0.length ≤ c0) (h : spec_l2Create.f k l0 a1 a2 a3 a4 = some (r1, r2, r3)) :
  Calls Tryd.prog 53 #[.slice A0 l0.length c0, .string a1, .int .i64 a2, .int .i64 a3, .bool a4] w fun e w' => ∃ v2_ : Value, e = .returned (.agg #[.int .i64 r1, .string r2, v2_]) ∧ Kd.R k32 32 w' w.heap.size (fun _ => True) v2_ r3 ∧ Below w.heap.size w w' := by
 have hu28 := Tryd.underlying28
 have hu32 := Tryd.underlying32
 have HR0 := aa hr0
 have HC0 := aa hc0
 clear hr0 hc0
 have HB := aa (Below.refl w.heap.size w)
 have H : ((spec_l2Data.f a2).bind fun t102 => (if t102 = true then ((spec_l2Owner.f a3).bind fun t103 => (spec_l2Create.j0 k l0 a1 a2 a3 a4 (!t103))) else (spec_l2Create.j0 k l0 a1 a2 a3 a4 true))) = some (r1, r2, r3) := h
 clear h
 have HC6 := aa H
 clear H
 go_enter Tryd.func53, Tryd.ntmps53
 go_upto_region 1 with (first | (refine be_ 10 #[.int .i64 0, .string (⟨#[]⟩ : ByteArray), .slice none 0 0] 28 ?_; intro gb101 hg w7 hbox hb; have n0_ := aa (below_step zjjbob hb); have n1_ := aa (hbox); have n2_ := aa ((zkpfjp : w.heap.size ≤ gb101)); have n3_ := aa ((zkpfjp : w.heap.size ≤ gb101)); clear HB; have HB := n0_; have BK101 := n1_; have GW101 := n2_; have GE101 := n3_; clear n0_ n1_ n2_ n3_; clear hb hbox hg))
 (try simp only [Act.put, List.setIfInBounds_toArray, List.set_cons_zero, List.set_cons_succ])
 go_cut [23] (fun v23 wc => ∃ (kq : Nat) (x23_5 : Bool), v23 = .bool x23_5 ∧ Aside0 (spec_l2Create.j0 kq l0 a1 a2 a3 a4 x23_5 = some (r1, r2, r3)) ∧ Aside0 (kq ≤ k) ∧ Aside0 (wc.heap[gb101]? = some (.cells #[.int .i64 0, .string (⟨#[]⟩ : ByteArray), (.slice none 0 0)] 28 (0, 0))) ∧ Aside0 (Below w.heap.size w wc))
 case first =>
  have H := HC6.out
  clear HC6
  revert H
  refine obs_ fun t102 A8 H => ?_
  by_cases c9 : t102 = true
  ·
   subst c9
   rw [if_pos rfl] at H
   revert H
   refine obs_ fun t103 A10 H => ?_
   have H' := aa H
   clear H
   go_wp2_with (first | (refine gc_ Tryd.func63 (some 17) #[.int .i64 a2] ?_; (with_reducible refine (spec_l2Data.calls a2 true _ A8.out).mono ?_); rintro e w' ⟨rfl, ⟨nd, rfl⟩⟩; refine ⟨_, rfl, ?_⟩) | (go_at_call 74; (with_reducible refine (spec_l2Owner.calls a3 t103 _ A10.out).mono ?_); rintro e w' ⟨rfl, ⟨nd, rfl⟩⟩))
   go_meet
   case rel => exact ⟨_, (!t103), zagbkp, H', ⟨zpacfg⟩, ⟨zkjhpm BK101.out⟩, ⟨zkmbdh⟩⟩
  replace c9 := Bool.eq_false_iff.mpr c9
  subst c9
  rw [if_neg fT_] at H
  have H' := aa H
  clear H
  go_wp2_with (first | (refine gc_ Tryd.func63 (some 17) #[.int .i64 a2] ?_; (with_reducible refine (spec_l2Data.calls a2 false _ A8.out).mono ?_); rintro e w' ⟨rfl, ⟨nd, rfl⟩⟩; refine ⟨_, rfl, ?_⟩))
  go_meet
  case rel => exact ⟨_, (true), zagbkp, H', ⟨zpacfg⟩, ⟨zkjhpm BK101.out⟩, ⟨zkmbdh⟩⟩
 case rest =>
  clear HC6
  try clear p2
  try clear c9
  obtain ⟨kq, x23_5, rfl, HA, HJ5, BK101, HB⟩ := hcut
  cases kq with
  | zero => exact absurd HA.out (by simp [spec_l2Create.j0])
  | succ kj5 =>
   have H := HA.out
   clear HA
   simp only [spec_l2Create.j0] at H
   by_cases c11 : x23_5 = true
   ·
    subst c11
    rw [if_pos rfl] at H
    revert H
    refine ob3_ fun t104 t105 t106 A12 H => ?_
    (try dsimp only at H)
    simp only [Option.some.injEq, Prod.mk.injEq] at H
    obtain ⟨rfl, rfl, rfl⟩ := H
    go_wp2_with (first | (refine gc_ Tryd.func34 (some 24) #[.int .i64 3] ?_; (with_reducible refine (spec_l2Bad.calls 3 t104 t105 t106 _ A12.out).mono ?_); rintro e w13 ⟨v107, rfl, ho0, hb⟩; refine ⟨_, rfl, ?_⟩; have HO108 := aa (Kd.R_lower ho0 (below_size zkmbdh)); replace BK101 := aa (bb_ BK101.out hb); replace HB := aa (below_step zkmbdh hb); (try clear hb hk hi ho0); obtain ⟨hcz14_0, hcz14_1, hcz14_2, hfz14_0, hfz14_1, hfz14_2⟩ := blk3_ BK101.out; obtain ⟨Ao15, co15, eo15⟩ := Kd.R_slice HO108.out; subst eo15))
    refine bodyPost_ret (results_cell_row rfl _ _ gb101 28 #[.int .i64 t104, .string t105, .slice Ao15 t106.length co15] (0, 0) _ rfl (by (with_reducible repeat (first | refine blk_drewN ?_ _ | refine blk_drew ?_ | refine blk_alloc ?_ _)); refine blk_put (cs := #[.int .i64 t104, .string t105, .slice none 0 0]) ?_ 2 _ rfl; (with_reducible repeat (first | refine blk_drewN ?_ _ | refine blk_drew ?_ | refine blk_alloc ?_ _)); refine blk_put (cs := #[.int .i64 t104, .string (⟨#[]⟩ : ByteArray), .slice none 0 0]) ?_ 1 _ rfl; (with_reducible repeat (first | refine blk_drewN ?_ _ | refine blk_drew ?_ | refine blk_alloc ?_ _)); refine blk_put (cs := #[.int .i64 0, .string (⟨#[]⟩ : ByteArray), .slice none 0 0]) ?_ 0 _ rfl; (with_reducible repeat (first | refine blk_drewN ?_ _ | refine blk_drew ?_ | refine blk_alloc ?_ _)); exact BK101.out) Tryd.underlying28 rfl (by kernel_rfl)) rfl ?_
    exact ⟨_, zlhpib, by (with_reducible repeat (first | apply Kd.R_alloc | apply Kd.R_drewN | apply Kd.R_drew)); exact Kd.R_mono (Kd.R_far (p := ⟨gb101, 2, none⟩) (Kd.R_far (p := ⟨gb101, 1, none⟩) (Kd.R_far (p := ⟨gb101, 0, none⟩) (Kd.R_types HO108.out BK101.out (by decide)) (fun _ hk => hk.2) (.int .i64 t104)) (fun _ hk => hk.2) (.string t105)) (fun _ hk => hk.2) (.slice Ao15 t106.length co15)) (fun _ hk => trivial), zkmbdh⟩
   ·
    replace c11 := Bool.eq_false_iff.mpr c11
    subst c11
    rw [if_neg fT_] at H
    revert H
    refine itE_ (fun c16b0 c16b1 H => ?_) fun c16b0 c16b1 H => ?_
    ·
     revert H
     refine ob3_ fun t109 t110 t111 A17 H => ?_
     (try dsimp only at H)
     simp only [Option.some.injEq, Prod.mk.injEq] at H
     obtain ⟨rfl, rfl, rfl⟩ := H
     go_wp2_with (first | (refine gc_ Tryd.func34 (some 27) #[.int .i64 1] ?_; (with_reducible refine (spec_l2Bad.calls 1 t109 t110 t111 _ A17.out).mono ?_); rintro e w18 ⟨v112, rfl, ho0, hb⟩; refine ⟨_, rfl, ?_⟩; have HO113 := aa (Kd.R_lower ho0 (below_size zkmbdh)); replace BK101 := aa (bb_ BK101.out hb); replace HB := aa (below_step zkmbdh hb); (try clear hb hk hi ho0); obtain ⟨hcz19_0, hcz19_1, hcz19_2, hfz19_0, hfz19_1, hfz19_2⟩ := blk3_ BK101.out; obtain ⟨Ao20, co20, eo20⟩ := Kd.R_slice HO113.out; subst eo20))
     refine bodyPost_ret (results_cell_row rfl _ _ gb101 28 #[.int .i64 t109, .string t110, .slice Ao20 t111.length co20] (0, 0) _ rfl zblijj Tryd.underlying28 rfl (by kernel_rfl)) rfl ?_
     exact ⟨_, zlhpib, by (with_reducible repeat (first | apply Kd.R_alloc | apply Kd.R_drewN | apply Kd.R_drew)); exact Kd.R_mono (Kd.R_far (p := ⟨gb101, 2, none⟩) (Kd.R_far (p := ⟨gb101, 1, none⟩) (Kd.R_far (p := ⟨gb101, 0, none⟩) (Kd.R_types HO113.out BK101.out (by decide)) (fun _ hk => hk.2) (.int .i64 t109)) (fun _ hk => hk.2) (.string t110)) (fun _ hk => hk.2) (.slice Ao20 t111.length co20)) (fun _ hk => trivial), zkmbdh⟩
    revert H
    refine obs_ fun t114 A21 H => ?_
    revert H
    refine obs_ fun t115 A22 H => ?_
    revert H
    refine itD_ (fun c23b0 H => ?_) fun c23b0 H => ?_
    ·
     revert H
     refine ob3_ fun t116 t117 t118 A24 H => ?_
     (try dsimp only at H)
     simp only [Option.some.injEq, Prod.mk.injEq] at H
     obtain ⟨rfl, rfl, rfl⟩ := H
     go_wp2_with (first | (refine gc_ Tryd.func75 (some 30) #[.string a1] ?_; (with_reducible refine (spec_l1Parent.calls kj5 a1 t114 _ A21.out).mono ?_); rintro e w' ⟨rfl, ⟨nd, rfl⟩⟩; refine ⟨_, rfl, ?_⟩; (try (rw [drewN_self wc]; generalize hq_ : World.drewN wc _ = wc; have n0_ : Aside0 (wc.heap[gb101]? = some (.cells #[.int .i64 0, .string (⟨#[]⟩ : ByteArray), .slice none 0 0] 28 (0, 0))) := ⟨by rw [← hq_]; exact (zkjhpm BK101.out)⟩; have n1_ : Aside0 (Below w.heap.size w wc) := ⟨by rw [← hq_]; exact zkmbdh⟩; clear BK101 HB hq_; have BK101 := n0_; have HB := n1_; clear n0_ n1_))) | (refine gc_ Tryd.func64 (some 31) #[.slice A0 l0.length c0, .string t114] ?_; (with_reducible refine (spec_l2At.calls kj5 _ _ l0 t114 t115 _ zfmbgg HC0.out A22.out).mono ?_); rintro e w' ⟨rfl, ⟨nd, rfl⟩⟩; refine ⟨_, rfl, ?_⟩; (try (rw [drewN_self wc]; generalize hq_ : World.drewN wc _ = wc; have n0_ : Aside0 (wc.heap[gb101]? = some (.cells #[.int .i64 0, .string (⟨#[]⟩ : ByteArray), .slice none 0 0] 28 (0, 0))) := ⟨by rw [← hq_]; exact (zkjhpm BK101.out)⟩; have n1_ : Aside0 (Below w.heap.size w wc) := ⟨by rw [← hq_]; exact zkmbdh⟩; clear BK101 HB hq_; have BK101 := n0_; have HB := n1_; clear n0_ n1_))) | (refine gc_ Tryd.func34 (some 34) #[.int .i64 4] ?_; (with_reducible refine (spec_l2Bad.calls 4 t116 t117 t118 _ A24.out).mono ?_); rintro e w25 ⟨v119, rfl, ho0, hb⟩; refine ⟨_, rfl, ?_⟩; have HO120 := aa (Kd.R_lower ho0 (below_size zkmbdh)); replace BK101 := aa (bb_ BK101.out hb); replace HB := aa (below_step zkmbdh hb); (try clear hb hk hi ho0); obtain ⟨hcz26_0, hcz26_1, hcz26_2, hfz26_0, hfz26_1, hfz26_2⟩ := blk3_ BK101.out; obtain ⟨Ao27, co27, eo27⟩ := Kd.R_slice HO120.out; subst eo27))
     refine bodyPost_ret (results_cell_row rfl _ _ gb101 28 #[.int .i64 t116, .string t117, .slice Ao27 t118.length co27] (0, 0) _ rfl (by (with_reducible repeat (first | refine blk_drewN ?_ _ | refine blk_drew ?_ | refine blk_alloc ?_ _)); refine blk_put (cs := #[.int .i64 t116, .string t117, .slice none 0 0]) ?_ 2 _ rfl; (with_reducible repeat (first | refine blk_drewN ?_ _ | refine blk_drew ?_ | refine blk_alloc ?_ _)); refine blk_put (cs := #[.int .i64 t116, .string (⟨#[]⟩ : ByteArray), .slice none 0 0]) ?_ 1 _ rfl; (with_reducible repeat (first | refine blk_drewN ?_ _ | refine blk_drew ?_ | refine blk_alloc ?_ _)); refine blk_put (cs := #[.int .i64 0, .string (⟨#[]⟩ : ByteArray), .slice none 0 0]) ?_ 0 _ rfl; (with_reducible repeat (first | refine blk_drewN ?_ _ | refine blk_drew ?_ | refine blk_alloc ?_ _)); exact BK101.out) Tryd.underlying28 rfl (by kernel_rfl)) rfl ?_
     exact ⟨_, zlhpib, by (with_reducible repeat (first | apply Kd.R_alloc | apply Kd.R_drewN | apply Kd.R_drew)); exact Kd.R_mono (Kd.R_far (p := ⟨gb101, 2, none⟩) (Kd.R_far (p := ⟨gb101, 1, none⟩) (Kd.R_far (p := ⟨gb101, 0, none⟩) (Kd.R_types HO120.out BK101.out (by decide)) (fun _ hk => hk.2) (.int .i64 t116)) (fun _ hk => hk.2) (.string t117)) (fun _ hk => hk.2) (.slice Ao27 t118.length co27)) (fun _ hk => trivial), zkmbdh⟩
    revert H
    refine itH_ fun c28b0 H => ?_
    revert H
    refine itH_ fun c29b0 H => ?_
    revert H
    refine itE_ (fun c30b0 c30b1 H => ?_) fun c30b0 c30b1 H => ?_
    ·
     revert H
     refine obs_ fun t127 A31 H => ?_
     have HC32 := aa H
     clear H
     go_upto_if 44 with (first | (refine gc_ Tryd.func75 (some 30) #[.string a1] ?_; (with_reducible refine (spec_l1Parent.calls kj5 a1 t114 _ A21.out).mono ?_); rintro e w' ⟨rfl, ⟨nd, rfl⟩⟩; refine ⟨_, rfl, ?_⟩) | (refine gc_ Tryd.func64 (some 31) #[.slice A0 l0.length c0, .string t114] ?_; (with_reducible refine (spec_l2At.calls kj5 _ _ l0 t114 t115 _ zklojj HC0.out A22.out).mono ?_); rintro e w' ⟨rfl, ⟨nd, rfl⟩⟩; refine ⟨_, rfl, ?_⟩; have p121 : 0 ≤ (t115 : Int) := of_decide_eq_true zgglam; have q121 : t115 < (l0.length : Int) := of_decide_eq_true zgglam; obtain ⟨ad121, e121, hx121_0, hx121_1, hx121_2, hx121_3, hx121_4⟩ := at_T32 HR0.out t115 p121 q121; cases e121; replace hx121_0 := pb HB.out hx121_0; replace hx121_1 := pb HB.out hx121_1; replace hx121_2 := pb HB.out hx121_2; replace hx121_3 := pb HB.out hx121_3; replace hx121_4 := pb HB.out hx121_4; replace p121 := eq_true p121; replace q121 := eq_true q121) | (refine gc_ Tryd.func65 (some 43) #[.slice (some ad121) l0.length c0] ?_; (with_reducible refine (spec_l2Copy.calls _ _ l0 t127 _ zklojj HC0.out A31.out).mono ?_); rintro e w33 ⟨v128, rfl, ho0, hb⟩; refine ⟨_, rfl, ?_⟩; have HO129 := aa (Kd.R_lower ho0 (below_size zkmbdh)); replace BK101 := aa (bb_ BK101.out hb); replace HB := aa (below_step zkmbdh hb); (try clear hb hk hi ho0)))
     (try simp only [Act.put, List.setIfInBounds_toArray, List.set_cons_zero, List.set_cons_succ])
     go_cut [1] (fun v1 wc => ∃ (kq : Nat) (x1_31 : ByteArray) (x12_31 : List (S32)) (x102000_31 : Int) (x102001_31 : ByteArray), v1 = .string x1_31 ∧ Aside0 (spec_l2Create.j1 kq l0 x1_31 a2 a3 x12_31 = some (r1, r2, r3)) ∧ Aside0 (kq ≤ kj5) ∧ Aside0 (Kd.R k32 32 wc w.heap.size (fun _ => True) v128 x12_31) ∧ Aside0 (wc.heap[gb101]? = some (.cells #[.int .i64 x102000_31, .string x102001_31, (.slice none 0 0)] 28 (0, 0))) ∧ Aside0 (Below w.heap.size w wc))
     case first =>
      have H := HC32.out
      clear HC32
      by_cases c34 : a4 = true
      ·
       subst c34
       rw [if_pos rfl] at H
       revert H
       refine itC_ (fun c35 H => ?_) fun c35 H => ?_
       ·
        have c35b0 : decide (100 ≤ ((rd_T32 l0 t115).f4)) = true := decide_eq_true c35
        clear c35
        (first | rw [c35b0] | (simp only [i64_w, i32_w]; rw [c35b0]) | (simp only [c35b2, Bool.not_false, Bool.not_true]) | skip)
        revert H
        refine ob3_ fun t131 t132 t133 A36 H => ?_
        (try dsimp only at H)
        simp only [Option.some.injEq, Prod.mk.injEq] at H
        obtain ⟨rfl, rfl, rfl⟩ := H
        have p130 : 0 ≤ (t115 : Int) := of_decide_eq_true zgglam
        have q130 : t115 < (l0.length : Int) := of_decide_eq_true zgglam
        obtain ⟨ad130, e130, hx130_0, hx130_1, hx130_2, hx130_3, hx130_4⟩ := at_T32 HR0.out t115 p130 q130
        obtain rfl : ad121 = ad130 := (by injection e130)
        replace hx130_0 := pb HB.out hx130_0
        replace hx130_1 := pb HB.out hx130_1
        replace hx130_2 := pb HB.out hx130_2
        replace hx130_3 := pb HB.out hx130_3
        replace hx130_4 := pb HB.out hx130_4
        replace p130 := eq_true p130
        replace q130 := eq_true q130
        go_wp2_with (first | (refine gc_ Tryd.func34 (some 52) #[.int .i64 3] ?_; (with_reducible refine (spec_l2Bad.calls 3 t131 t132 t133 _ A36.out).mono ?_); rintro e w37 ⟨v134, rfl, ho0, hb⟩; refine ⟨_, rfl, ?_⟩; have n0_ := aa (Kd.R_elder' (zcaken HO129.out) (Kd.R_base ho0) hb); have n1_ := aa (Kd.R_lower (Kd.R_new' ho0 (Kd.R_lt (zcaken HO129.out))) (below_size zkmbdh)); have n2_ := aa (bb_ BK101.out hb); have n3_ := aa (below_step zkmbdh hb); clear HO129; clear BK101; clear HB; have HO129 := n0_; have HO135 := n1_; have BK101 := n2_; have HB := n3_; clear n0_ n1_ n2_ n3_; (try clear hb hk hi ho0); obtain ⟨hcz38_0, hcz38_1, hcz38_2, hfz38_0, hfz38_1, hfz38_2⟩ := blk3_ BK101.out; obtain ⟨Ao39, co39, eo39⟩ := Kd.R_slice HO135.out; subst eo39))
        refine bodyPost_ret (results_cell_row rfl _ _ gb101 28 #[.int .i64 t131, .string t132, .slice Ao39 t133.length co39] (0, 0) _ rfl (by (with_reducible repeat (first | refine blk_drewN ?_ _ | refine blk_drew ?_ | refine blk_alloc ?_ _)); refine blk_put (cs := #[.int .i64 t131, .string t132, .slice none 0 0]) ?_ 2 _ rfl; (with_reducible repeat (first | refine blk_drewN ?_ _ | refine blk_drew ?_ | refine blk_alloc ?_ _)); refine blk_put (cs := #[.int .i64 t131, .string (⟨#[]⟩ : ByteArray), .slice none 0 0]) ?_ 1 _ rfl; (with_reducible repeat (first | refine blk_drewN ?_ _ | refine blk_drew ?_ | refine blk_alloc ?_ _)); refine blk_put (cs := #[.int .i64 0, .string (⟨#[]⟩ : ByteArray), .slice none 0 0]) ?_ 0 _ rfl; (with_reducible repeat (first | refine blk_drewN ?_ _ | refine blk_drew ?_ | refine blk_alloc ?_ _)); exact BK101.out) Tryd.underlying28 rfl (by kernel_rfl)) rfl ?_
        exact ⟨_, zlhpib, by (with_reducible repeat (first | apply Kd.R_alloc | apply Kd.R_drewN | apply Kd.R_drew)); exact Kd.R_mono (Kd.R_far (p := ⟨gb101, 2, none⟩) (Kd.R_far (p := ⟨gb101, 1, none⟩) (Kd.R_far (p := ⟨gb101, 0, none⟩) (Kd.R_types HO135.out BK101.out (by decide)) (fun _ hk => hk.2) (.int .i64 t131)) (fun _ hk => hk.2) (.string t132)) (fun _ hk => hk.2) (.slice Ao39 t133.length co39)) (fun _ hk => trivial), zkmbdh⟩
       have c35b0 : decide (100 ≤ ((rd_T32 l0 t115).f4)) = false := decide_eq_false c35
       clear c35
       (first | rw [c35b0] | (simp only [i64_w, i32_w]; rw [c35b0]) | (simp only [c35b2, Bool.not_false, Bool.not_true]) | skip)
       revert H
       refine obs_ fun t136 A40 H => ?_
       obtain ⟨ji41, hji41⟩ : ∃ j_ : Int, (wrap64 (t136 + 1)) = j_ := ⟨_, rfl⟩
       first | rw [hji41] at H | simp only [hji41] at H
       (try rw [hji41] at A40)
       have hji41w : (IntKind.i64.wrap (t136 + 1)) = ji41 := (i64_w _).trans hji41
       revert H
       refine itG_ fun c42 H => ?_
       have c42b0 := eq_true c42
       have c42b1 := decide_eq_true c42
       clear c42
       revert H
       refine itG_ fun c43 H => ?_
       have c43b0 := eq_true c43
       have c43b1 := decide_eq_true c43
       clear c43
       revert H
       refine obs_ fun t137 A44 H => ?_
       revert H
       refine obs_ fun t138 A45 H => ?_
       by_cases c46 : t138 = true
       ·
        subst c46
        rw [if_pos rfl] at H
        revert H
        refine obs_ fun t144 A47 H => ?_
        revert H
        refine obs_ fun t145 A48 H => ?_
        revert H
        refine obs_ fun t146 A49 H => ?_
        revert H
        refine obs_ fun t147 A50 H => ?_
        revert H
        refine itE_ (fun c51b0 c51b1 H => ?_) fun c51b0 c51b1 H => ?_
        ·
         revert H
         refine itH_ fun c52b0 H => ?_
         obtain ⟨y148, hy148⟩ : ∃ y_ : List (S32), y_ = (t127.set (t115 : Int).toNat (⟨(rd_T32 t127 t115).f0, (rd_T32 t127 t115).f1, (rd_T32 t127 t115).f2, (rd_T32 t127 t115).f3, wrap64 (((rd_T32 l0 t115).f4) + 1)⟩ : S32)) := ⟨_, rfl⟩
         replace H : (spec_l2Create.j1 kj5 l0 t146 a2 a3 y148) = some (r1, r2, r3) := by cases hy148; exact H
         have Ny148 := aa hy148
         clear hy148
         have H' := aa H
         clear H
         have p130 : 0 ≤ (t115 : Int) := of_decide_eq_true zgglam
         have q130 : t115 < (l0.length : Int) := of_decide_eq_true zgglam
         obtain ⟨ad130, e130, hx130_0, hx130_1, hx130_2, hx130_3, hx130_4⟩ := at_T32 HR0.out t115 p130 q130
         obtain rfl : ad121 = ad130 := (by injection e130)
         replace hx130_0 := pb HB.out hx130_0
         replace hx130_1 := pb HB.out hx130_1
         replace hx130_2 := pb HB.out hx130_2
         replace hx130_3 := pb HB.out hx130_3
         replace hx130_4 := pb HB.out hx130_4
         replace p130 := eq_true p130
         replace q130 := eq_true q130
         go_wp2_with (first | (refine gc_ Tryd.func76 (some 55) #[.string a1] ?_; (with_reducible refine (spec_l1Last.calls kj5 a1 t136 _ A40.out).mono ?_); rintro e w' ⟨rfl, ⟨nd, rfl⟩⟩; refine ⟨_, rfl, ?_⟩; (try (rw [drewN_self w33]; generalize hq_ : World.drewN w33 _ = w33; have n0_ : Aside0 (Kd.R k32 32 w33 w.heap.size (fun _ => True) v128 t127) := ⟨by rw [← hq_]; exact (zcaken HO129.out)⟩; have n1_ : Aside0 (w33.heap[gb101]? = some (.cells #[.int .i64 0, .string (⟨#[]⟩ : ByteArray), .slice none 0 0] 28 (0, 0))) := ⟨by rw [← hq_]; exact (zkjhpm BK101.out)⟩; have n2_ : Aside0 (Below w.heap.size w w33) := ⟨by rw [← hq_]; exact zkmbdh⟩; clear HO129 BK101 HB hq_; have HO129 := n0_; have BK101 := n1_; have HB := n2_; clear n0_ n1_ n2_))) | ((with_reducible refine gate_callee (f := 58) rfl ?_); refine goesL_ (some 60) rfl rfl Tryd.func58 (by kernel_rfl) rfl #[.string (a1.extract ((ji41) : Int).toNat a1.size), .int .i64 ((rd_T32 l0 t115).f4)] rfl zfokej ?_; (with_reducible refine (spec_l1Seq.calls kj5 (a1.extract ((ji41) : Int).toNat a1.size) ((rd_T32 l0 t115).f4) t137 _ A44.out).mono ?_); rintro e w54 ⟨rfl, hb⟩; refine ⟨_, rfl, ?_⟩; replace HO129 := aa (Kd.R_below (zcaken HO129.out) hb); replace BK101 := aa (bb_ BK101.out hb); replace HB := aa (below_step zkmbdh hb); (try clear hb hk hi)) | (refine gc_ Tryd.func56 (some 61) #[.string t137] ?_; (with_reducible refine (spec_l1Name.calls kj5 t137 true _ A45.out).mono ?_); rintro e w' ⟨rfl, ⟨nd, rfl⟩⟩; refine ⟨_, rfl, ?_⟩; (try (rw [drewN_self w54]; generalize hq_ : World.drewN w54 _ = w54; have n0_ : Aside0 (Kd.R k32 32 w54 w.heap.size (fun _ => True) v128 t127) := ⟨by rw [← hq_]; exact (zcaken HO129.out)⟩; have n1_ : Aside0 (w54.heap[gb101]? = some (.cells #[.int .i64 0, .string (⟨#[]⟩ : ByteArray), .slice none 0 0] 28 (0, 0))) := ⟨by rw [← hq_]; exact (zkjhpm BK101.out)⟩; have n2_ : Aside0 (Below w.heap.size w w54) := ⟨by rw [← hq_]; exact zkmbdh⟩; clear HO129 BK101 HB hq_; have HO129 := n0_; have BK101 := n1_; have HB := n2_; clear n0_ n1_ n2_))) | (refine gc_ Tryd.func75 (some 65) #[.string a1] ?_; (with_reducible refine (spec_l1Parent.calls kj5 a1 t144 _ A47.out).mono ?_); rintro e w' ⟨rfl, ⟨nd, rfl⟩⟩; refine ⟨_, rfl, ?_⟩; (try (rw [drewN_self w54]; generalize hq_ : World.drewN w54 _ = w54; have n0_ : Aside0 (Kd.R k32 32 w54 w.heap.size (fun _ => True) v128 t127) := ⟨by rw [← hq_]; exact (zcaken HO129.out)⟩; have n1_ : Aside0 (w54.heap[gb101]? = some (.cells #[.int .i64 0, .string (⟨#[]⟩ : ByteArray), .slice none 0 0] 28 (0, 0))) := ⟨by rw [← hq_]; exact (zkjhpm BK101.out)⟩; have n2_ : Aside0 (Below w.heap.size w w54) := ⟨by rw [← hq_]; exact zkmbdh⟩; clear HO129 BK101 HB hq_; have HO129 := n0_; have BK101 := n1_; have HB := n2_; clear n0_ n1_ n2_))) | ((with_reducible refine gate_callee (f := 58) rfl ?_); refine goesL_ (some 68) rfl rfl Tryd.func58 (by kernel_rfl) rfl #[.string (a1.extract ((ji41) : Int).toNat a1.size), .int .i64 ((rd_T32 l0 t115).f4)] rfl zfokej ?_; (with_reducible refine (spec_l1Seq.calls kj5 (a1.extract ((ji41) : Int).toNat a1.size) ((rd_T32 l0 t115).f4) t145 _ A48.out).mono ?_); rintro e w55 ⟨rfl, hb⟩; refine ⟨_, rfl, ?_⟩; replace HO129 := aa (Kd.R_below (zcaken HO129.out) hb); replace BK101 := aa (bb_ BK101.out hb); replace HB := aa (below_step zkmbdh hb); (try clear hb hk hi)) | (refine gc_ Tryd.func51 (some 69) #[.string t144, .string t145] ?_; (with_reducible refine (spec_l1Join.calls t144 t145 t146 _ A49.out).mono ?_); rintro e w' ⟨rfl, ⟨nd, rfl⟩⟩; refine ⟨_, rfl, ?_⟩; (try (rw [drewN_self w55]; generalize hq_ : World.drewN w55 _ = w55; have n0_ : Aside0 (Kd.R k32 32 w55 w.heap.size (fun _ => True) v128 t127) := ⟨by rw [← hq_]; exact (zcaken HO129.out)⟩; have n1_ : Aside0 (w55.heap[gb101]? = some (.cells #[.int .i64 0, .string (⟨#[]⟩ : ByteArray), .slice none 0 0] 28 (0, 0))) := ⟨by rw [← hq_]; exact (zkjhpm BK101.out)⟩; have n2_ : Aside0 (Below w.heap.size w w55) := ⟨by rw [← hq_]; exact zkmbdh⟩; clear HO129 BK101 HB hq_; have HO129 := n0_; have BK101 := n1_; have HB := n2_; clear n0_ n1_ n2_))) | (refine gc_ Tryd.func62 (some 71) #[.string t146] ?_; (with_reducible refine (spec_l1Fault.calls kj5 t146 t147 _ A50.out).mono ?_); rintro e w56 ⟨rfl, hb⟩; refine ⟨_, rfl, ?_⟩; replace HO129 := aa (Kd.R_below (zcaken HO129.out) hb); replace BK101 := aa (bb_ BK101.out hb); replace HB := aa (below_step zkmbdh hb); (try clear hb hk hi); have p53 : 0 ≤ (t115 : Int) := of_decide_eq_true zgglam; have q53 : (t115 : Int) < ((t127.length : Int) : Int) := of_decide_eq_true zgglam; obtain ⟨go53, co53, eo53, gb53, gl53, cl53, HG53⟩ := Kd.R_form HO129.out (by omega); (first | cases eo53 | (injection eo53 with ea_ en_ ec_; (first | subst ea_ | (injection ea_ with ea_; subst ea_)); subst ec_; clear en_)); have GB53 := aa gb53; have GG53 := aa HG53; clear gb53 gl53 HG53; obtain ⟨ce53, hcl53, hM53, hcc53, hfr53⟩ := Kd.R_elem HO129.out z32 (t115 : Int) p53 q53; obtain rfl := k32_openM hM53; have hx53_0 : w56.cell? ⟨go53, (t115 : Int).toNat * 5, none⟩ = some (.string ((rd_T32 t127 t115).f0)) := hcc53 0 _ rfl; have hx53_1 : w56.cell? ⟨go53, (t115 : Int).toNat * 5 + 1, none⟩ = some (.int .i64 ((rd_T32 t127 t115).f1)) := hcc53 1 _ rfl; have hx53_2 : w56.cell? ⟨go53, (t115 : Int).toNat * 5 + 2, none⟩ = some (.int .i64 ((rd_T32 t127 t115).f2)) := hcc53 2 _ rfl; have hx53_3 : w56.cell? ⟨go53, (t115 : Int).toNat * 5 + 3, none⟩ = some (.int .i64 ((rd_T32 t127 t115).f3)) := hcc53 3 _ rfl; have hx53_4 : w56.cell? ⟨go53, (t115 : Int).toNat * 5 + 4, none⟩ = some (.int .i64 ((rd_T32 t127 t115).f4)) := hcc53 4 _ rfl; have hf53_0 : w56.frozen? ⟨go53, (t115 : Int).toNat * 5, none⟩ = false := hfr53 0; have hf53_1 : w56.frozen? ⟨go53, (t115 : Int).toNat * 5 + 1, none⟩ = false := hfr53 1; have hf53_2 : w56.frozen? ⟨go53, (t115 : Int).toNat * 5 + 2, none⟩ = false := hfr53 2; have hf53_3 : w56.frozen? ⟨go53, (t115 : Int).toNat * 5 + 3, none⟩ = false := hfr53 3; have hf53_4 : w56.frozen? ⟨go53, (t115 : Int).toNat * 5 + 4, none⟩ = false := hfr53 4; clear hcl53 hcc53 hfr53 hM53; replace p53 := eq_true p53; replace q53 := eq_true q53; have HX57 := aa (show Kd.R k32 32 w56 w.heap.size (fun _ => True) (.slice (some ⟨go53, 0, none⟩) t127.length co53) t127 from (zcaken HO129.out)); obtain ⟨ce57, hcl57, hM57, hcc57, hfr57⟩ := Kd.R_elem HX57.out z32 (t115 : Int) (of_decide_eq_true zgglam) (by have h_ : (t115 : Int) < ((t127.length : Int) : Int) := of_decide_eq_true zgglam; first | exact h_ | (have e_ := (Kd.R_reads' HO129.out).1; omega) | simpa using h_); obtain rfl := k32_openM hM57; have HP57 := Kd.R_seg HX57.out (t115 : Int) (of_decide_eq_true zgglam) (by have h_ : (t115 : Int) < ((t127.length : Int) : Int) := of_decide_eq_true zgglam; first | exact h_ | (have e_ := (Kd.R_reads' HO129.out).1; omega) | simpa using h_) (seg := [.int .i64 (wrap64 (((rd_T32 l0 t115).f4) + 1))]) (j := 4) hcl57 hcc57 (show 5 ≤ 5 from by decide) (x' := (⟨(rd_T32 t127 t115).f0, (rd_T32 t127 t115).f1, (rd_T32 t127 t115).f2, (rd_T32 t127 t115).f3, wrap64 (((rd_T32 l0 t115).f4) + 1)⟩ : S32)) (k32_mkM _ _ _ (⟨(rd_T32 t127 t115).f0, (rd_T32 t127 t115).f1, (rd_T32 t127 t115).f2, (rd_T32 t127 t115).f3, wrap64 (((rd_T32 l0 t115).f4) + 1)⟩ : S32) ) (fun _ hk => hk); have hx57_4 := hcc57 4 _ rfl; (try simp only [show (k32).sz = 5 from rfl, Nat.mul_one, Nat.add_zero] at hx57_4); have hf57_4 := hfr57 4; (try simp only [show (k32).sz = 5 from rfl, Nat.mul_one, Nat.add_zero] at hf57_4); clear hcl57 hcc57 hfr57 hM57) | ((with_reducible refine gate_store (t := 2) (p := 81) rfl ?_); refine store_event (t := 2) (p := 81) (v := ?vo_w58) (w1 := (w56.setCell ⟨go53, (t115 : Int).toNat * 5 + 4, none⟩ (.int .i64 (wrap64 (((rd_T32 l0 t115).f4) + 1))))) ?hg ?ho ?hn ?hr ?_; (case ho => rfl); (case hg => rfl); (case hn => rfl); (case hr => exact zhlgcp); intro w58 hw; have hg : w56.grownBy w58 (some go53) := (by rw [hw]; exact HP57.2); have hp_ : Kd.R k32 32 w58 w.heap.size (fun _ => True) (.slice (some ⟨go53, 0, none⟩) t127.length co53) y148 := (by rw [hw, Ny148.out]; exact HP57.1); clear HP57; have n0_ := aa (blk_grown (g := gb101) (o := .cells #[.int .i64 0, .string (⟨#[]⟩ : ByteArray), .slice none 0 0] 28 (0, 0)) (zkjhpm BK101.out) hg (Kd.R_ne HO129.out BK101.out (by decide))); have n1_ := aa (hp_); have n2_ := aa ((by rw [hw]; exact below_set (HB.out) GB53.out : Below w.heap.size w w58)); clear BK101; clear HO129; clear HB; have BK101 := n0_; have HO129 := n1_; have HB := n2_; clear n0_ n1_ n2_; clear hg hw hp_))
         go_meet
         case rel => exact ⟨_, (t146), (y148), (0), ((⟨#[]⟩ : ByteArray)), zagbkp, H', ⟨by have := HJ5.out; first | omega | exact Nat.le_refl _⟩, ⟨zcaken HO129.out⟩, ⟨zkjhpm BK101.out⟩, ⟨zkmbdh⟩⟩
        revert H
        refine ob3_ fun t149 t150 t151 A59 H => ?_
        (try dsimp only at H)
        simp only [Option.some.injEq, Prod.mk.injEq] at H
        obtain ⟨rfl, rfl, rfl⟩ := H
        have p130 : 0 ≤ (t115 : Int) := of_decide_eq_true zgglam
        have q130 : t115 < (l0.length : Int) := of_decide_eq_true zgglam
        obtain ⟨ad130, e130, hx130_0, hx130_1, hx130_2, hx130_3, hx130_4⟩ := at_T32 HR0.out t115 p130 q130
        obtain rfl : ad121 = ad130 := (by injection e130)
        replace hx130_0 := pb HB.out hx130_0
        replace hx130_1 := pb HB.out hx130_1
        replace hx130_2 := pb HB.out hx130_2
        replace hx130_3 := pb HB.out hx130_3
        replace hx130_4 := pb HB.out hx130_4
        replace p130 := eq_true p130
        replace q130 := eq_true q130
        go_wp2_with (first | (refine gc_ Tryd.func76 (some 55) #[.string a1] ?_; (with_reducible refine (spec_l1Last.calls kj5 a1 t136 _ A40.out).mono ?_); rintro e w' ⟨rfl, ⟨nd, rfl⟩⟩; refine ⟨_, rfl, ?_⟩; (try (rw [drewN_self w33]; generalize hq_ : World.drewN w33 _ = w33; have n0_ : Aside0 (Kd.R k32 32 w33 w.heap.size (fun _ => True) v128 t127) := ⟨by rw [← hq_]; exact (zcaken HO129.out)⟩; have n1_ : Aside0 (w33.heap[gb101]? = some (.cells #[.int .i64 0, .string (⟨#[]⟩ : ByteArray), .slice none 0 0] 28 (0, 0))) := ⟨by rw [← hq_]; exact (zkjhpm BK101.out)⟩; have n2_ : Aside0 (Below w.heap.size w w33) := ⟨by rw [← hq_]; exact zkmbdh⟩; clear HO129 BK101 HB hq_; have HO129 := n0_; have BK101 := n1_; have HB := n2_; clear n0_ n1_ n2_))) | ((with_reducible refine gate_callee (f := 58) rfl ?_); refine goesL_ (some 60) rfl rfl Tryd.func58 (by kernel_rfl) rfl #[.string (a1.extract ((ji41) : Int).toNat a1.size), .int .i64 ((rd_T32 l0 t115).f4)] rfl zfokej ?_; (with_reducible refine (spec_l1Seq.calls kj5 (a1.extract ((ji41) : Int).toNat a1.size) ((rd_T32 l0 t115).f4) t137 _ A44.out).mono ?_); rintro e w60 ⟨rfl, hb⟩; refine ⟨_, rfl, ?_⟩; replace HO129 := aa (Kd.R_below (zcaken HO129.out) hb); replace BK101 := aa (bb_ BK101.out hb); replace HB := aa (below_step zkmbdh hb); (try clear hb hk hi)) | (refine gc_ Tryd.func56 (some 61) #[.string t137] ?_; (with_reducible refine (spec_l1Name.calls kj5 t137 true _ A45.out).mono ?_); rintro e w' ⟨rfl, ⟨nd, rfl⟩⟩; refine ⟨_, rfl, ?_⟩; (try (rw [drewN_self w60]; generalize hq_ : World.drewN w60 _ = w60; have n0_ : Aside0 (Kd.R k32 32 w60 w.heap.size (fun _ => True) v128 t127) := ⟨by rw [← hq_]; exact (zcaken HO129.out)⟩; have n1_ : Aside0 (w60.heap[gb101]? = some (.cells #[.int .i64 0, .string (⟨#[]⟩ : ByteArray), .slice none 0 0] 28 (0, 0))) := ⟨by rw [← hq_]; exact (zkjhpm BK101.out)⟩; have n2_ : Aside0 (Below w.heap.size w w60) := ⟨by rw [← hq_]; exact zkmbdh⟩; clear HO129 BK101 HB hq_; have HO129 := n0_; have BK101 := n1_; have HB := n2_; clear n0_ n1_ n2_))) | (refine gc_ Tryd.func75 (some 65) #[.string a1] ?_; (with_reducible refine (spec_l1Parent.calls kj5 a1 t144 _ A47.out).mono ?_); rintro e w' ⟨rfl, ⟨nd, rfl⟩⟩; refine ⟨_, rfl, ?_⟩; (try (rw [drewN_self w60]; generalize hq_ : World.drewN w60 _ = w60; have n0_ : Aside0 (Kd.R k32 32 w60 w.heap.size (fun _ => True) v128 t127) := ⟨by rw [← hq_]; exact (zcaken HO129.out)⟩; have n1_ : Aside0 (w60.heap[gb101]? = some (.cells #[.int .i64 0, .string (⟨#[]⟩ : ByteArray), .slice none 0 0] 28 (0, 0))) := ⟨by rw [← hq_]; exact (zkjhpm BK101.out)⟩; have n2_ : Aside0 (Below w.heap.size w w60) := ⟨by rw [← hq_]; exact zkmbdh⟩; clear HO129 BK101 HB hq_; have HO129 := n0_; have BK101 := n1_; have HB := n2_; clear n0_ n1_ n2_))) | ((with_reducible refine gate_callee (f := 58) rfl ?_); refine goesL_ (some 68) rfl rfl Tryd.func58 (by kernel_rfl) rfl #[.string (a1.extract ((ji41) : Int).toNat a1.size), .int .i64 ((rd_T32 l0 t115).f4)] rfl zfokej ?_; (with_reducible refine (spec_l1Seq.calls kj5 (a1.extract ((ji41) : Int).toNat a1.size) ((rd_T32 l0 t115).f4) t145 _ A48.out).mono ?_); rintro e w61 ⟨rfl, hb⟩; refine ⟨_, rfl, ?_⟩; replace HO129 := aa (Kd.R_below (zcaken HO129.out) hb); replace BK101 := aa (bb_ BK101.out hb); replace HB := aa (below_step zkmbdh hb); (try clear hb hk hi)) | (refine gc_ Tryd.func51 (some 69) #[.string t144, .string t145] ?_; (with_reducible refine (spec_l1Join.calls t144 t145 t146 _ A49.out).mono ?_); rintro e w' ⟨rfl, ⟨nd, rfl⟩⟩; refine ⟨_, rfl, ?_⟩; (try (rw [drewN_self w61]; generalize hq_ : World.drewN w61 _ = w61; have n0_ : Aside0 (Kd.R k32 32 w61 w.heap.size (fun _ => True) v128 t127) := ⟨by rw [← hq_]; exact (zcaken HO129.out)⟩; have n1_ : Aside0 (w61.heap[gb101]? = some (.cells #[.int .i64 0, .string (⟨#[]⟩ : ByteArray), .slice none 0 0] 28 (0, 0))) := ⟨by rw [← hq_]; exact (zkjhpm BK101.out)⟩; have n2_ : Aside0 (Below w.heap.size w w61) := ⟨by rw [← hq_]; exact zkmbdh⟩; clear HO129 BK101 HB hq_; have HO129 := n0_; have BK101 := n1_; have HB := n2_; clear n0_ n1_ n2_))) | (refine gc_ Tryd.func62 (some 71) #[.string t146] ?_; (with_reducible refine (spec_l1Fault.calls kj5 t146 t147 _ A50.out).mono ?_); rintro e w62 ⟨rfl, hb⟩; refine ⟨_, rfl, ?_⟩; replace HO129 := aa (Kd.R_below (zcaken HO129.out) hb); replace BK101 := aa (bb_ BK101.out hb); replace HB := aa (below_step zkmbdh hb); (try clear hb hk hi)) | (refine gc_ Tryd.func34 (some 75) #[.int .i64 t147] ?_; (with_reducible refine (spec_l2Bad.calls t147 t149 t150 t151 _ A59.out).mono ?_); rintro e w63 ⟨v152, rfl, ho0, hb⟩; refine ⟨_, rfl, ?_⟩; have n0_ := aa (Kd.R_elder' (zcaken HO129.out) (Kd.R_base ho0) hb); have n1_ := aa (Kd.R_lower (Kd.R_new' ho0 (Kd.R_lt (zcaken HO129.out))) (below_size zkmbdh)); have n2_ := aa (bb_ BK101.out hb); have n3_ := aa (below_step zkmbdh hb); clear HO129; clear BK101; clear HB; have HO129 := n0_; have HO153 := n1_; have BK101 := n2_; have HB := n3_; clear n0_ n1_ n2_ n3_; (try clear hb hk hi ho0); obtain ⟨hcz64_0, hcz64_1, hcz64_2, hfz64_0, hfz64_1, hfz64_2⟩ := blk3_ BK101.out; obtain ⟨Ao65, co65, eo65⟩ := Kd.R_slice HO153.out; subst eo65))
        refine bodyPost_ret (results_cell_row rfl _ _ gb101 28 #[.int .i64 t149, .string t150, .slice Ao65 t151.length co65] (0, 0) _ rfl (by (with_reducible repeat (first | refine blk_drewN ?_ _ | refine blk_drew ?_ | refine blk_alloc ?_ _)); refine blk_put (cs := #[.int .i64 t149, .string t150, .slice none 0 0]) ?_ 2 _ rfl; (with_reducible repeat (first | refine blk_drewN ?_ _ | refine blk_drew ?_ | refine blk_alloc ?_ _)); refine blk_put (cs := #[.int .i64 t149, .string (⟨#[]⟩ : ByteArray), .slice none 0 0]) ?_ 1 _ rfl; (with_reducible repeat (first | refine blk_drewN ?_ _ | refine blk_drew ?_ | refine blk_alloc ?_ _)); refine blk_put (cs := #[.int .i64 0, .string (⟨#[]⟩ : ByteArray), .slice none 0 0]) ?_ 0 _ rfl; (with_reducible repeat (first | refine blk_drewN ?_ _ | refine blk_drew ?_ | refine blk_alloc ?_ _)); exact BK101.out) Tryd.underlying28 rfl (by kernel_rfl)) rfl ?_
        exact ⟨_, znmpic, by (with_reducible repeat (first | apply Kd.R_alloc | apply Kd.R_drewN | apply Kd.R_drew)); exact Kd.R_mono (Kd.R_far (p := ⟨gb101, 2, none⟩) (Kd.R_far (p := ⟨gb101, 1, none⟩) (Kd.R_far (p := ⟨gb101, 0, none⟩) (Kd.R_types HO153.out BK101.out (by decide)) (fun _ hk => hk.2) (.int .i64 t149)) (fun _ hk => hk.2) (.string t150)) (fun _ hk => hk.2) (.slice Ao65 t151.length co65)) (fun _ hk => trivial), zkmbdh⟩
       replace c46 := Bool.eq_false_iff.mpr c46
       subst c46
       rw [if_neg fT_] at H
       revert H
       refine ob3_ fun t139 t140 t141 A66 H => ?_
       (try dsimp only at H)
       simp only [Option.some.injEq, Prod.mk.injEq] at H
       obtain ⟨rfl, rfl, rfl⟩ := H
       have p130 : 0 ≤ (t115 : Int) := of_decide_eq_true zgglam
       have q130 : t115 < (l0.length : Int) := of_decide_eq_true zgglam
       obtain ⟨ad130, e130, hx130_0, hx130_1, hx130_2, hx130_3, hx130_4⟩ := at_T32 HR0.out t115 p130 q130
       obtain rfl : ad121 = ad130 := (by injection e130)
       replace hx130_0 := pb HB.out hx130_0
       replace hx130_1 := pb HB.out hx130_1
       replace hx130_2 := pb HB.out hx130_2
       replace hx130_3 := pb HB.out hx130_3
       replace hx130_4 := pb HB.out hx130_4
       replace p130 := eq_true p130
       replace q130 := eq_true q130
       go_wp2_with (first | (refine gc_ Tryd.func76 (some 55) #[.string a1] ?_; (with_reducible refine (spec_l1Last.calls kj5 a1 t136 _ A40.out).mono ?_); rintro e w' ⟨rfl, ⟨nd, rfl⟩⟩; refine ⟨_, rfl, ?_⟩; (try (rw [drewN_self w33]; generalize hq_ : World.drewN w33 _ = w33; have n0_ : Aside0 (Kd.R k32 32 w33 w.heap.size (fun _ => True) v128 t127) := ⟨by rw [← hq_]; exact (zcaken HO129.out)⟩; have n1_ : Aside0 (w33.heap[gb101]? = some (.cells #[.int .i64 0, .string (⟨#[]⟩ : ByteArray), .slice none 0 0] 28 (0, 0))) := ⟨by rw [← hq_]; exact (zkjhpm BK101.out)⟩; have n2_ : Aside0 (Below w.heap.size w w33) := ⟨by rw [← hq_]; exact zkmbdh⟩; clear HO129 BK101 HB hq_; have HO129 := n0_; have BK101 := n1_; have HB := n2_; clear n0_ n1_ n2_))) | ((with_reducible refine gate_callee (f := 58) rfl ?_); refine goesL_ (some 60) rfl rfl Tryd.func58 (by kernel_rfl) rfl #[.string (a1.extract ((ji41) : Int).toNat a1.size), .int .i64 ((rd_T32 l0 t115).f4)] rfl zfokej ?_; (with_reducible refine (spec_l1Seq.calls kj5 (a1.extract ((ji41) : Int).toNat a1.size) ((rd_T32 l0 t115).f4) t137 _ A44.out).mono ?_); rintro e w67 ⟨rfl, hb⟩; refine ⟨_, rfl, ?_⟩; replace HO129 := aa (Kd.R_below (zcaken HO129.out) hb); replace BK101 := aa (bb_ BK101.out hb); replace HB := aa (below_step zkmbdh hb); (try clear hb hk hi)) | (refine gc_ Tryd.func56 (some 61) #[.string t137] ?_; (with_reducible refine (spec_l1Name.calls kj5 t137 false _ A45.out).mono ?_); rintro e w' ⟨rfl, ⟨nd, rfl⟩⟩; refine ⟨_, rfl, ?_⟩; (try (rw [drewN_self w67]; generalize hq_ : World.drewN w67 _ = w67; have n0_ : Aside0 (Kd.R k32 32 w67 w.heap.size (fun _ => True) v128 t127) := ⟨by rw [← hq_]; exact (zcaken HO129.out)⟩; have n1_ : Aside0 (w67.heap[gb101]? = some (.cells #[.int .i64 0, .string (⟨#[]⟩ : ByteArray), .slice none 0 0] 28 (0, 0))) := ⟨by rw [← hq_]; exact (zkjhpm BK101.out)⟩; have n2_ : Aside0 (Below w.heap.size w w67) := ⟨by rw [← hq_]; exact zkmbdh⟩; clear HO129 BK101 HB hq_; have HO129 := n0_; have BK101 := n1_; have HB := n2_; clear n0_ n1_ n2_))) | (refine gc_ Tryd.func34 (some 63) #[.int .i64 5] ?_; (with_reducible refine (spec_l2Bad.calls 5 t139 t140 t141 _ A66.out).mono ?_); rintro e w68 ⟨v142, rfl, ho0, hb⟩; refine ⟨_, rfl, ?_⟩; have n0_ := aa (Kd.R_elder' (zcaken HO129.out) (Kd.R_base ho0) hb); have n1_ := aa (Kd.R_lower (Kd.R_new' ho0 (Kd.R_lt (zcaken HO129.out))) (below_size zkmbdh)); have n2_ := aa (bb_ BK101.out hb); have n3_ := aa (below_step zkmbdh hb); clear HO129; clear BK101; clear HB; have HO129 := n0_; have HO143 := n1_; have BK101 := n2_; have HB := n3_; clear n0_ n1_ n2_ n3_; (try clear hb hk hi ho0); obtain ⟨hcz69_0, hcz69_1, hcz69_2, hfz69_0, hfz69_1, hfz69_2⟩ := blk3_ BK101.out; obtain ⟨Ao70, co70, eo70⟩ := Kd.R_slice HO143.out; subst eo70))
       refine bodyPost_ret (results_cell_row rfl _ _ gb101 28 #[.int .i64 t139, .string t140, .slice Ao70 t141.length co70] (0, 0) _ rfl (by (with_reducible repeat (first | refine blk_drewN ?_ _ | refine blk_drew ?_ | refine blk_alloc ?_ _)); refine blk_put (cs := #[.int .i64 t139, .string t140, .slice none 0 0]) ?_ 2 _ rfl; (with_reducible repeat (first | refine blk_drewN ?_ _ | refine blk_drew ?_ | refine blk_alloc ?_ _)); refine blk_put (cs := #[.int .i64 t139, .string (⟨#[]⟩ : ByteArray), .slice none 0 0]) ?_ 1 _ rfl; (with_reducible repeat (first | refine blk_drewN ?_ _ | refine blk_drew ?_ | refine blk_alloc ?_ _)); refine blk_put (cs := #[.int .i64 0, .string (⟨#[]⟩ : ByteArray), .slice none 0 0]) ?_ 0 _ rfl; (with_reducible repeat (first | refine blk_drewN ?_ _ | refine blk_drew ?_ | refine blk_alloc ?_ _)); exact BK101.out) Tryd.underlying28 rfl (by kernel_rfl)) rfl ?_
       exact ⟨_, znmpic, by (with_reducible repeat (first | apply Kd.R_alloc | apply Kd.R_drewN | apply Kd.R_drew)); exact Kd.R_mono (Kd.R_far (p := ⟨gb101, 2, none⟩) (Kd.R_far (p := ⟨gb101, 1, none⟩) (Kd.R_far (p := ⟨gb101, 0, none⟩) (Kd.R_types HO143.out BK101.out (by decide)) (fun _ hk => hk.2) (.int .i64 t139)) (fun _ hk => hk.2) (.string t140)) (fun _ hk => hk.2) (.slice Ao70 t141.length co70)) (fun _ hk => trivial), zkmbdh⟩
      replace c34 := Bool.eq_false_iff.mpr c34
      subst c34
      rw [if_neg fT_] at H
      have H' := aa H
      clear H
      go_wp2
      go_meet
      case rel => exact ⟨_, (a1), (t127), (0), ((⟨#[]⟩ : ByteArray)), zagbkp, H', ⟨by have := HJ5.out; first | omega | exact Nat.le_refl _⟩, ⟨zcaken HO129.out⟩, ⟨zkjhpm BK101.out⟩, ⟨zkmbdh⟩⟩
     case rest =>
      clear HC32
      try clear p1
      try clear q1
      try clear hx1
      try clear p2
      try clear p5
      try clear q5
      try clear hx5
      try clear hf5
      try clear p6
      try clear c9
      try clear c11
      try clear p12
      try clear q12
      try clear hx12
      try clear p13
      try clear q13
      try clear hx13
      try clear c16b0
      try clear c16b1
      try clear c23b0
      try clear c28b0
      try clear c29b0
      try clear c30b0
      try clear c30b1
      try clear c34
      try clear c35
      try clear c35b0
      try clear c35b2
      try clear c42
      try clear c42b0
      try clear c42b1
      try clear c43
      try clear c43b0
      try clear c43b1
      try clear c46
      try clear c51b0
      try clear c51b1
      try clear c52b0
      try clear p53
      try clear q53
      try clear hx53
      try clear hf53
      try clear hx57
      try clear hf57
      try clear p64
      try clear hcz14_0
      try clear hcz14_1
      try clear hcz14_2
      try clear hcz19_0
      try clear hcz19_1
      try clear hcz19_2
      try clear hcz26_0
      try clear hcz26_1
      try clear hcz26_2
      try clear hcz38_0
      try clear hcz38_1
      try clear hcz38_2
      try clear hcz64_0
      try clear hcz64_1
      try clear hcz64_2
      try clear hcz69_0
      try clear hcz69_1
      try clear hcz69_2
      try clear hfz14_0
      try clear hfz14_1
      try clear hfz14_2
      try clear hfz19_0
      try clear hfz19_1
      try clear hfz19_2
      try clear hfz26_0
      try clear hfz26_1
      try clear hfz26_2
      try clear hfz38_0
      try clear hfz38_1
      try clear hfz38_2
      try clear hfz64_0
      try clear hfz64_1
      try clear hfz64_2
      try clear hfz69_0
      try clear hfz69_1
      try clear hfz69_2
      try clear hx121_0
      try clear hx121_1
      try clear hx121_2
      try clear hx121_3
      try clear hx121_4
      try clear hx130_0
      try clear hx130_1
      try clear hx130_2
      try clear hx130_3
      try clear hx130_4
      try clear hx53_0
      try clear hx53_1
      try clear hx53_2
      try clear hx53_3
      try clear hx53_4
      try clear hx57_4
      try clear p121
      try clear p130
      try clear p2
      try clear p53
      try clear q121
      try clear q130
      try clear q53
      obtain ⟨kq, x1_31, x12_31, x102000_31, x102001_31, rfl, HA, HJ31, HO_12, BK101, HB⟩ := hcut
      cases kq with
      | zero => exact absurd HA.out (by simp [spec_l2Create.j1])
      | succ kj31 =>
       have H := HA.out
       clear HA
       simp only [spec_l2Create.j1] at H
       revert H
       refine obs_ fun t154 A71 H => ?_
       revert H
       refine itC_ (fun c72 H => ?_) fun c72 H => ?_
       ·
        have c72b0 : decide (0 ≤ t154) = true := decide_eq_true c72
        clear c72
        revert H
        refine ob3_ fun t155 t156 t157 A73 H => ?_
        (try dsimp only at H)
        simp only [Option.some.injEq, Prod.mk.injEq] at H
        obtain ⟨rfl, rfl, rfl⟩ := H
        go_wp2_with (first | (refine gc_ Tryd.func64 (some 84) #[.slice (some ad121) l0.length c0, .string x1_31] ?_; (with_reducible refine (spec_l2At.calls kj31 _ _ l0 x1_31 t154 _ zfmbgg HC0.out A71.out).mono ?_); rintro e w' ⟨rfl, ⟨nd, rfl⟩⟩; refine ⟨_, rfl, ?_⟩; (try (rw [drewN_self wc]; generalize hq_ : World.drewN wc _ = wc; have n0_ : Aside0 (Kd.R k32 32 wc w.heap.size (fun _ => True) v128 x12_31) := ⟨by rw [← hq_]; exact (zcaken HO_12.out)⟩; have n1_ : Aside0 (wc.heap[gb101]? = some (.cells #[.int .i64 x102000_31, .string x102001_31, .slice none 0 0] 28 (0, 0))) := ⟨by rw [← hq_]; exact (zkjhpm BK101.out)⟩; have n2_ : Aside0 (Below w.heap.size w wc) := ⟨by rw [← hq_]; exact zkmbdh⟩; clear HO_12 BK101 HB hq_; have HO_12 := n0_; have BK101 := n1_; have HB := n2_; clear n0_ n1_ n2_))) | (refine gc_ Tryd.func34 (some 86) #[.int .i64 6] ?_; (with_reducible refine (spec_l2Bad.calls 6 t155 t156 t157 _ A73.out).mono ?_); rintro e w74 ⟨v158, rfl, ho0, hb⟩; refine ⟨_, rfl, ?_⟩; have n0_ := aa (Kd.R_elder' (zcaken HO_12.out) (Kd.R_base ho0) hb); have n1_ := aa (Kd.R_lower (Kd.R_new' ho0 (Kd.R_lt (zcaken HO_12.out))) (below_size zkmbdh)); have n2_ := aa (bb_ BK101.out hb); have n3_ := aa (below_step zkmbdh hb); clear HO_12; clear BK101; clear HB; have HO_12 := n0_; have HO159 := n1_; have BK101 := n2_; have HB := n3_; clear n0_ n1_ n2_ n3_; (try clear hb hk hi ho0); obtain ⟨hcz75_0, hcz75_1, hcz75_2, hfz75_0, hfz75_1, hfz75_2⟩ := blk3_ BK101.out; obtain ⟨Ao76, co76, eo76⟩ := Kd.R_slice HO159.out; subst eo76))
        refine bodyPost_ret (results_cell_row rfl _ _ gb101 28 #[.int .i64 t155, .string t156, .slice Ao76 t157.length co76] (0, 0) _ rfl (by (with_reducible repeat (first | refine blk_drewN ?_ _ | refine blk_drew ?_ | refine blk_alloc ?_ _)); refine blk_put (cs := #[.int .i64 t155, .string t156, .slice none 0 0]) ?_ 2 _ rfl; (with_reducible repeat (first | refine blk_drewN ?_ _ | refine blk_drew ?_ | refine blk_alloc ?_ _)); refine blk_put (cs := #[.int .i64 t155, .string x102001_31, .slice none 0 0]) ?_ 1 _ rfl; (with_reducible repeat (first | refine blk_drewN ?_ _ | refine blk_drew ?_ | refine blk_alloc ?_ _)); refine blk_put (cs := #[.int .i64 x102000_31, .string x102001_31, .slice none 0 0]) ?_ 0 _ rfl; (with_reducible repeat (first | refine blk_drewN ?_ _ | refine blk_drew ?_ | refine blk_alloc ?_ _)); exact BK101.out) Tryd.underlying28 rfl (by kernel_rfl)) rfl ?_
        exact ⟨_, zlhpib, by (with_reducible repeat (first | apply Kd.R_alloc | apply Kd.R_drewN | apply Kd.R_drew)); exact Kd.R_mono (Kd.R_far (p := ⟨gb101, 2, none⟩) (Kd.R_far (p := ⟨gb101, 1, none⟩) (Kd.R_far (p := ⟨gb101, 0, none⟩) (Kd.R_types HO159.out BK101.out (by decide)) (fun _ hk => hk.2) (.int .i64 t155)) (fun _ hk => hk.2) (.string t156)) (fun _ hk => hk.2) (.slice Ao76 t157.length co76)) (fun _ hk => trivial), zkmbdh⟩
       ·
        have c72b0 : decide (0 ≤ t154) = false := decide_eq_false c72
        clear c72
        revert H
        refine itC_ (fun c77 H => ?_) fun c77 H => ?_
        ·
         have c77b0 : decide (20 ≤ (l0.length : Int)) = true := decide_eq_true c77
         have c77b1 : decide (20 ≤ l0.length) = true := decide_eq_true (by omega)
         clear c77
         revert H
         refine ob3_ fun t160 t161 t162 A78 H => ?_
         (try dsimp only at H)
         simp only [Option.some.injEq, Prod.mk.injEq] at H
         obtain ⟨rfl, rfl, rfl⟩ := H
         go_wp2_with (first | (refine gc_ Tryd.func64 (some 84) #[.slice (some ad121) l0.length c0, .string x1_31] ?_; (with_reducible refine (spec_l2At.calls kj31 _ _ l0 x1_31 t154 _ zfmbgg HC0.out A71.out).mono ?_); rintro e w' ⟨rfl, ⟨nd, rfl⟩⟩; refine ⟨_, rfl, ?_⟩; (try (rw [drewN_self wc]; generalize hq_ : World.drewN wc _ = wc; have n0_ : Aside0 (Kd.R k32 32 wc w.heap.size (fun _ => True) v128 x12_31) := ⟨by rw [← hq_]; exact (zcaken HO_12.out)⟩; have n1_ : Aside0 (wc.heap[gb101]? = some (.cells #[.int .i64 x102000_31, .string x102001_31, .slice none 0 0] 28 (0, 0))) := ⟨by rw [← hq_]; exact (zkjhpm BK101.out)⟩; have n2_ : Aside0 (Below w.heap.size w wc) := ⟨by rw [← hq_]; exact zkmbdh⟩; clear HO_12 BK101 HB hq_; have HO_12 := n0_; have BK101 := n1_; have HB := n2_; clear n0_ n1_ n2_))) | (refine gc_ Tryd.func34 (some 90) #[.int .i64 2] ?_; (with_reducible refine (spec_l2Bad.calls 2 t160 t161 t162 _ A78.out).mono ?_); rintro e w79 ⟨v163, rfl, ho0, hb⟩; refine ⟨_, rfl, ?_⟩; have n0_ := aa (Kd.R_elder' (zcaken HO_12.out) (Kd.R_base ho0) hb); have n1_ := aa (Kd.R_lower (Kd.R_new' ho0 (Kd.R_lt (zcaken HO_12.out))) (below_size zkmbdh)); have n2_ := aa (bb_ BK101.out hb); have n3_ := aa (below_step zkmbdh hb); clear HO_12; clear BK101; clear HB; have HO_12 := n0_; have HO164 := n1_; have BK101 := n2_; have HB := n3_; clear n0_ n1_ n2_ n3_; (try clear hb hk hi ho0); obtain ⟨hcz80_0, hcz80_1, hcz80_2, hfz80_0, hfz80_1, hfz80_2⟩ := blk3_ BK101.out; obtain ⟨Ao81, co81, eo81⟩ := Kd.R_slice HO164.out; subst eo81))
         refine bodyPost_ret (results_cell_row rfl _ _ gb101 28 #[.int .i64 t160, .string t161, .slice Ao81 t162.length co81] (0, 0) _ rfl (by (with_reducible repeat (first | refine blk_drewN ?_ _ | refine blk_drew ?_ | refine blk_alloc ?_ _)); refine blk_put (cs := #[.int .i64 t160, .string t161, .slice none 0 0]) ?_ 2 _ rfl; (with_reducible repeat (first | refine blk_drewN ?_ _ | refine blk_drew ?_ | refine blk_alloc ?_ _)); refine blk_put (cs := #[.int .i64 t160, .string x102001_31, .slice none 0 0]) ?_ 1 _ rfl; (with_reducible repeat (first | refine blk_drewN ?_ _ | refine blk_drew ?_ | refine blk_alloc ?_ _)); refine blk_put (cs := #[.int .i64 x102000_31, .string x102001_31, .slice none 0 0]) ?_ 0 _ rfl; (with_reducible repeat (first | refine blk_drewN ?_ _ | refine blk_drew ?_ | refine blk_alloc ?_ _)); exact BK101.out) Tryd.underlying28 rfl (by kernel_rfl)) rfl ?_
         exact ⟨_, zlhpib, by (with_reducible repeat (first | apply Kd.R_alloc | apply Kd.R_drewN | apply Kd.R_drew)); exact Kd.R_mono (Kd.R_far (p := ⟨gb101, 2, none⟩) (Kd.R_far (p := ⟨gb101, 1, none⟩) (Kd.R_far (p := ⟨gb101, 0, none⟩) (Kd.R_types HO164.out BK101.out (by decide)) (fun _ hk => hk.2) (.int .i64 t160)) (fun _ hk => hk.2) (.string t161)) (fun _ hk => hk.2) (.slice Ao81 t162.length co81)) (fun _ hk => trivial), zkmbdh⟩
        have c77b0 : decide (20 ≤ (l0.length : Int)) = false := decide_eq_false c77
        have c77b1 : decide (20 ≤ l0.length) = false := decide_eq_false (by omega)
        clear c77
        revert H
        refine obs_ fun t165 A82 H => ?_
        simp only [Option.some.injEq, Prod.mk.injEq] at H
        obtain ⟨rfl, rfl, rfl⟩ := H
        go_wp2_with (first | (refine gc_ Tryd.func64 (some 84) #[.slice (some ad121) l0.length c0, .string x1_31] ?_; (with_reducible refine (spec_l2At.calls kj31 _ _ l0 x1_31 t154 _ zfmbgg HC0.out A71.out).mono ?_); rintro e w' ⟨rfl, ⟨nd, rfl⟩⟩; refine ⟨_, rfl, ?_⟩; (try (rw [drewN_self wc]; generalize hq_ : World.drewN wc _ = wc; have n0_ : Aside0 (Kd.R k32 32 wc w.heap.size (fun _ => True) v128 x12_31) := ⟨by rw [← hq_]; exact (zcaken HO_12.out)⟩; have n1_ : Aside0 (wc.heap[gb101]? = some (.cells #[.int .i64 x102000_31, .string x102001_31, .slice none 0 0] 28 (0, 0))) := ⟨by rw [← hq_]; exact (zkjhpm BK101.out)⟩; have n2_ : Aside0 (Below w.heap.size w wc) := ⟨by rw [← hq_]; exact zkmbdh⟩; clear HO_12 BK101 HB hq_; have HO_12 := n0_; have BK101 := n1_; have HB := n2_; clear n0_ n1_ n2_)); obtain ⟨Ao83, co83, eo83⟩ := Kd.R_slice HO_12.out; subst eo83) | (refine gc_ Tryd.func77 (some 97) #[.slice Ao83 x12_31.length co83, .agg #[.string x1_31, .int .i64 a2, .int .i64 0, .int .i64 a3, .int .i64 0]] ?_; (with_reducible refine (spec_l2Put.calls kj31 _ _ x12_31 x1_31 a2 0 a3 0 t165 _ ?side1 ?side2 A82.out).mono ?_); (case side1 => repeat (first | exact (Kd.R_reads' HO_12.out).2.2 | (with_reducible refine Kd.C_alloc ?_ _) | (with_reducible refine Kd.C_drewN ?_ _) | (with_reducible refine Kd.C_drew ?_))); (case side2 => exact (Kd.R_reads' HO_12.out).2.1); rintro e w84 ⟨v166, rfl, ho0, hb⟩; refine ⟨_, rfl, ?_⟩; have n0_ := aa (Kd.R_elder' (zcaken HO_12.out) (Kd.R_base ho0) hb); have n1_ := aa (Kd.R_lower (Kd.R_new' ho0 (Kd.R_lt (zcaken HO_12.out))) (below_size zkmbdh)); have n2_ := aa (bb_ BK101.out hb); have n3_ := aa (below_step zkmbdh hb); clear HO_12; clear BK101; clear HB; have HO_12 := n0_; have HO167 := n1_; have BK101 := n2_; have HB := n3_; clear n0_ n1_ n2_ n3_; (try clear hb hk hi ho0); obtain ⟨Ao85, co85, eo85⟩ := Kd.R_slice HO167.out; subst eo85; obtain ⟨hcz86_0, hcz86_1, hcz86_2, hfz86_0, hfz86_1, hfz86_2⟩ := blk3_ BK101.out))
        refine bodyPost_ret (results_cell_row rfl _ _ gb101 28 #[.int .i64 0, .string x1_31, .slice Ao85 t165.length co85] (0, 0) _ rfl (by (with_reducible repeat (first | refine blk_drewN ?_ _ | refine blk_drew ?_ | refine blk_alloc ?_ _)); refine blk_put (cs := #[.int .i64 0, .string x1_31, .slice none 0 0]) ?_ 2 _ rfl; (with_reducible repeat (first | refine blk_drewN ?_ _ | refine blk_drew ?_ | refine blk_alloc ?_ _)); refine blk_put (cs := #[.int .i64 0, .string x102001_31, .slice none 0 0]) ?_ 1 _ rfl; (with_reducible repeat (first | refine blk_drewN ?_ _ | refine blk_drew ?_ | refine blk_alloc ?_ _)); refine blk_put (cs := #[.int .i64 x102000_31, .string x102001_31, .slice none 0 0]) ?_ 0 _ rfl; (with_reducible repeat (first | refine blk_drewN ?_ _ | refine blk_drew ?_ | refine blk_alloc ?_ _)); exact BK101.out) Tryd.underlying28 rfl (by kernel_rfl)) rfl ?_
        exact ⟨_, zlhpib, by (with_reducible repeat (first | apply Kd.R_alloc | apply Kd.R_drewN | apply Kd.R_drew)); exact Kd.R_mono (Kd.R_far (p := ⟨gb101, 2, none⟩) (Kd.R_far (p := ⟨gb101, 1, none⟩) (Kd.R_far (p := ⟨gb101, 0, none⟩) (Kd.R_types HO167.out BK101.out (by decide)) (fun _ hk => hk.2) (.int .i64 0)) (fun _ hk => hk.2) (.string x1_31)) (fun _ hk => hk.2) (.slice Ao85 t165.length co85)) (fun _ hk => trivial), zkmbdh⟩
    revert H
    refine ob3_ fun t122 t123 t124 A87 H => ?_
    (try dsimp only at H)
    simp only [Option.some.injEq, Prod.mk.injEq] at H
    obtain ⟨rfl, rfl, rfl⟩ := H
    go_wp2_with (first | (refine gc_ Tryd.func75 (some 30) #[.string a1] ?_; (with_reducible refine (spec_l1Parent.calls kj5 a1 t114 _ A21.out).mono ?_); rintro e w' ⟨rfl, ⟨nd, rfl⟩⟩; refine ⟨_, rfl, ?_⟩; (try (rw [drewN_self wc]; generalize hq_ : World.drewN wc _ = wc; have n0_ : Aside0 (wc.heap[gb101]? = some (.cells #[.int .i64 0, .string (⟨#[]⟩ : ByteArray), .slice none 0 0] 28 (0, 0))) := ⟨by rw [← hq_]; exact (zkjhpm BK101.out)⟩; have n1_ : Aside0 (Below w.heap.size w wc) := ⟨by rw [← hq_]; exact zkmbdh⟩; clear BK101 HB hq_; have BK101 := n0_; have HB := n1_; clear n0_ n1_))) | (refine gc_ Tryd.func64 (some 31) #[.slice A0 l0.length c0, .string t114] ?_; (with_reducible refine (spec_l2At.calls kj5 _ _ l0 t114 t115 _ zfmbgg HC0.out A22.out).mono ?_); rintro e w' ⟨rfl, ⟨nd, rfl⟩⟩; refine ⟨_, rfl, ?_⟩; (try (rw [drewN_self wc]; generalize hq_ : World.drewN wc _ = wc; have n0_ : Aside0 (wc.heap[gb101]? = some (.cells #[.int .i64 0, .string (⟨#[]⟩ : ByteArray), .slice none 0 0] 28 (0, 0))) := ⟨by rw [← hq_]; exact (zkjhpm BK101.out)⟩; have n1_ : Aside0 (Below w.heap.size w wc) := ⟨by rw [← hq_]; exact zkmbdh⟩; clear BK101 HB hq_; have BK101 := n0_; have HB := n1_; clear n0_ n1_)); have p121 : 0 ≤ (t115 : Int) := of_decide_eq_true zgglam; have q121 : t115 < (l0.length : Int) := of_decide_eq_true zgglam; obtain ⟨ad121, e121, hx121_0, hx121_1, hx121_2, hx121_3, hx121_4⟩ := at_T32 HR0.out t115 p121 q121; cases e121; replace hx121_0 := pb HB.out hx121_0; replace hx121_1 := pb HB.out hx121_1; replace hx121_2 := pb HB.out hx121_2; replace hx121_3 := pb HB.out hx121_3; replace hx121_4 := pb HB.out hx121_4; replace p121 := eq_true p121; replace q121 := eq_true q121) | (refine gc_ Tryd.func34 (some 41) #[.int .i64 8] ?_; (with_reducible refine (spec_l2Bad.calls 8 t122 t123 t124 _ A87.out).mono ?_); rintro e w88 ⟨v125, rfl, ho0, hb⟩; refine ⟨_, rfl, ?_⟩; have HO126 := aa (Kd.R_lower ho0 (below_size zkmbdh)); replace BK101 := aa (bb_ BK101.out hb); replace HB := aa (below_step zkmbdh hb); (try clear hb hk hi ho0); obtain ⟨hcz89_0, hcz89_1, hcz89_2, hfz89_0, hfz89_1, hfz89_2⟩ := blk3_ BK101.out; obtain ⟨Ao90, co90, eo90⟩ := Kd.R_slice HO126.out; subst eo90))
    refine bodyPost_ret (results_cell_row rfl _ _ gb101 28 #[.int .i64 t122, .string t123, .slice Ao90 t124.length co90] (0, 0) _ rfl zmnjfm Tryd.underlying28 rfl (by kernel_rfl)) rfl ?_
    exact ⟨_, zlhpib, by (with_reducible repeat (first | apply Kd.R_alloc | apply Kd.R_drewN | apply Kd.R_drew)); exact Kd.R_mono (Kd.R_far (p := ⟨gb101, 2, none⟩) (Kd.R_far (p := ⟨gb101, 1, none⟩) (Kd.R_far (p := ⟨gb101, 0, none⟩) (Kd.R_types HO126.out BK101.out (by decide)) (fun _ hk => hk.2) (.int .i64 t122)) (fun _ hk => hk.2) (.string t123)) (fun _ hk => hk.2) (.slice Ao90 t124.length co90)) (fun _ hk => trivial), zkmbdh⟩
def spec_NewTree.f (a0 : Int) : Option (Int × ByteArray × (List (S32))) := (spec_l2Data.f a0).bind fun t102 => (if t102 = true then (some (0, (⟨#[]⟩ : ByteArray), (([(⟨(⟨#[47]⟩ : ByteArray), a0, 0, 0, 0⟩ : S32)] : List (S32))))) else (some (3, (⟨#[]⟩ : ByteArray), ([] : List (S32)))))
theorem spec_NewTree.calls (a0 : Int) (r1 : Int) (r2 : ByteArray) (r3 : List (S32)) (w : World) (h : spec_NewTree.f a0 = some (r1, r2, r3)) :
  Calls Tryd.prog 89 #[.int .i64 a0] w fun e w' => ∃ v2_ : Value, e = .returned (.agg #[.int .i64 r1, .string r2, v2_]) ∧ Kd.R k32 32 w' w.heap.size (fun _ => True) v2_ r3 ∧ Below w.heap.size w w' := by
 have hu28 := Tryd.underlying28
 have hu32 := Tryd.underlying32
 have HB := aa (Below.refl w.heap.size w)
 have H : ((spec_l2Data.f a0).bind fun t102 => (if t102 = true then (some (0, (⟨#[]⟩ : ByteArray), (([(⟨(⟨#[47]⟩ : ByteArray), a0, 0, 0, 0⟩ : S32)] : List (S32))))) else (some (3, (⟨#[]⟩ : ByteArray), ([] : List (S32)))))) = some (r1, r2, r3) := h
 clear h
 revert H
 refine obs_ fun t102 A2 H => ?_
 by_cases c3 : t102 = true
 ·
  subst c3
  rw [if_pos rfl] at H
  obtain ⟨y103, hy103⟩ : ∃ y_ : List (S32), y_ = (([(⟨(⟨#[47]⟩ : ByteArray), a0, 0, 0, 0⟩ : S32)] : List (S32))) := ⟨_, rfl⟩
  replace H : (some (0, (⟨#[]⟩ : ByteArray), y103)) = some (r1, r2, r3) := by cases hy103; exact H
  have Ny103 := aa hy103
  clear hy103
  simp only [Option.some.injEq, Prod.mk.injEq] at H
  obtain ⟨rfl, rfl, rfl⟩ := H
  go_enter Tryd.func89, Tryd.ntmps89
  go_wp2_with (first | (refine be_ 2 #[.int .i64 0, .string (⟨#[]⟩ : ByteArray), .slice none 0 0] 28 ?_; intro gb101 hg w4 hbox hb; have n0_ := aa (below_step zjjbob hb); have n1_ := aa (hbox); have n2_ := aa ((zkpfjp : w.heap.size ≤ gb101)); have n3_ := aa ((zkpfjp : w.heap.size ≤ gb101)); clear HB; have HB := n0_; have BK101 := n1_; have GW101 := n2_; have GE101 := n3_; clear n0_ n1_ n2_ n3_; clear hb hbox hg) | (refine gc_ Tryd.func63 (some 4) #[.int .i64 a0] ?_; (with_reducible refine (spec_l2Data.calls a0 true _ A2.out).mono ?_); rintro e w' ⟨rfl, ⟨nd, rfl⟩⟩; refine ⟨_, rfl, ?_⟩; (try (rw [drewN_self w4]; generalize hq_ : World.drewN w4 _ = w4; have n0_ : Aside0 (w4.heap[gb101]? = some (.cells #[.int .i64 0, .string (⟨#[]⟩ : ByteArray), .slice none 0 0] 28 (0, 0))) := ⟨by rw [← hq_]; exact (zkjhpm BK101.out)⟩; have n1_ : Aside0 (Below w.heap.size w w4) := ⟨by rw [← hq_]; exact zkmbdh⟩; clear BK101 HB hq_; have BK101 := n0_; have HB := n1_; clear n0_ n1_))) | ((with_reducible refine gate_dst (N := 9) rfl ?_); refine Kd.R_lit k32 _ 32 ?hg (N := 9) ?hd (xs := ([(⟨(⟨#[47]⟩ : ByteArray), a0, 0, 0, 0⟩ : S32)] : List (S32))) (inner := [.string (⟨#[47]⟩ : ByteArray), .int .i64 a0, .int .i64 0, .int .i64 0, .int .i64 0]) (ok := fun _ => True) (okp := fun _ => True) ?hr ?hp (fun _ hk => hk) trivial (Below.refl _ _) (Nat.le_refl _) (by simp) ?_; (case hd => rfl); (case hg => rfl); (case hr => exact zhlgcp); (case hp => exact (Reps.c5 (show Kd.M k32 _ _ _ (⟨(⟨#[47]⟩ : ByteArray), a0, 0, 0, 0⟩ : S32) [.string (⟨#[47]⟩ : ByteArray), .int .i64 a0, .int .i64 0, .int .i64 0, .int .i64 0] from (k32_mkM _ _ _ (⟨(⟨#[47]⟩ : ByteArray), a0, 0, 0, 0⟩ : S32) )) (Reps.none _ _))); intro v104 w5 ho6 hb hg_ hnew_; clear hg_ hnew_; (first | rw [← Ny103.out] at ho6 | (simp only [Int.reduceToNat] at ho6; rw [← Ny103.out] at ho6)); have HO105 := aa (Kd.R_lower ho6 (below_size zkmbdh)); replace BK101 := aa (bb_ BK101.out hb); replace HB := aa (below_step zkmbdh hb); clear hb ho6; obtain ⟨Ao7, co7, eo7⟩ := Kd.R_slice HO105.out; subst eo7; obtain ⟨hcz8_0, hcz8_1, hcz8_2, hfz8_0, hfz8_1, hfz8_2⟩ := blk3_ BK101.out))
  refine bodyPost_ret (results_cell_row rfl _ _ gb101 28 #[.int .i64 0, .string (⟨#[]⟩ : ByteArray), .slice Ao7 y103.length co7] (0, 0) _ rfl zkhiid Tryd.underlying28 rfl (by kernel_rfl)) rfl ?_
  exact ⟨_, zlhpib, by (with_reducible repeat (first | apply Kd.R_alloc | apply Kd.R_drewN | apply Kd.R_drew)); exact Kd.R_mono (Kd.R_far (p := ⟨gb101, 2, none⟩) (Kd.R_far (p := ⟨gb101, 1, none⟩) (Kd.R_far (p := ⟨gb101, 0, none⟩) (Kd.R_types HO105.out BK101.out (by decide)) (fun _ hk => hk.2) (.int .i64 0)) (fun _ hk => hk.2) (.string (⟨#[]⟩ : ByteArray))) (fun _ hk => hk.2) (.slice Ao7 y103.length co7)) (fun _ hk => trivial), zkmbdh⟩
 replace c3 := Bool.eq_false_iff.mpr c3
 subst c3
 rw [if_neg fT_] at H
 simp only [Option.some.injEq, Prod.mk.injEq] at H
 obtain ⟨rfl, rfl, rfl⟩ := H
 go_enter Tryd.func89, Tryd.ntmps89
 go_wp2_with (first | (refine be_ 2 #[.int .i64 0, .string (⟨#[]⟩ : ByteArray), .slice none 0 0] 28 ?_; intro gb101 hg w9 hbox hb; have n0_ := aa (below_step zjjbob hb); have n1_ := aa (hbox); have n2_ := aa ((zkpfjp : w.heap.size ≤ gb101)); have n3_ := aa ((zkpfjp : w.heap.size ≤ gb101)); clear HB; have HB := n0_; have BK101 := n1_; have GW101 := n2_; have GE101 := n3_; clear n0_ n1_ n2_ n3_; clear hb hbox hg) | (refine gc_ Tryd.func63 (some 4) #[.int .i64 a0] ?_; (with_reducible refine (spec_l2Data.calls a0 false _ A2.out).mono ?_); rintro e w' ⟨rfl, ⟨nd, rfl⟩⟩; refine ⟨_, rfl, ?_⟩; (try (rw [drewN_self w9]; generalize hq_ : World.drewN w9 _ = w9; have n0_ : Aside0 (w9.heap[gb101]? = some (.cells #[.int .i64 0, .string (⟨#[]⟩ : ByteArray), .slice none 0 0] 28 (0, 0))) := ⟨by rw [← hq_]; exact (zkjhpm BK101.out)⟩; have n1_ : Aside0 (Below w.heap.size w w9) := ⟨by rw [← hq_]; exact zkmbdh⟩; clear BK101 HB hq_; have BK101 := n0_; have HB := n1_; clear n0_ n1_)); obtain ⟨hcz10_0, hcz10_1, hcz10_2, hfz10_0, hfz10_1, hfz10_2⟩ := blk3_ BK101.out))
 refine bodyPost_ret (results_cell_row rfl _ _ gb101 28 #[.int .i64 3, .string (⟨#[]⟩ : ByteArray), .slice none 0 0] (0, 0) _ rfl zdnlbm Tryd.underlying28 rfl (by kernel_rfl)) rfl ?_
 exact ⟨_, zlhpib, zhijhk, zkmbdh⟩
end Go.Proofs.YtegggpipggniaaaDoor.Qa