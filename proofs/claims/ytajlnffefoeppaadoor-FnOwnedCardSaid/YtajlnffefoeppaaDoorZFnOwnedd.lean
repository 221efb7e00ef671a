/- For every input the law FnOwned returns true, and every argument reads behind the call as it read before: no condition. Here: the last part, the theorem in it. -/
import Derived.Test.YtajlnffefoeppaaDoorQax0
import Derived.Test.YtajlnffefoeppaaDoorQax14
import Derived.Test.YtajlnffefoeppaaDoorZFnOwneda
import Derived.Test.YtajlnffefoeppaaDoorZFnOwnedc
import Derived.Test.YtajlnffefoeppaaDoorWWords
import Derived.Deep.Slices
import Derived.ChangeArms
import Derived.Test.YtajlnffefoeppaaDoorQax2
import Derived.Test.YtajlnffefoeppaaDoorQax23
import Derived.Test.YtajlnffefoeppaaDoorQax24
import Derived.Test.YtajlnffefoeppaaDoorQax3
import Derived.Test.YtajlnffefoeppaaDoorQax1
import Derived.Test.YtajlnffefoeppaaDoorQax19
import Derived.Test.YtajlnffefoeppaaDoorQax20
import Derived.Test.YtajlnffefoeppaaDoorQax21
import Derived.Test.YtajlnffefoeppaaDoorQax22
import Derived.Test.YtajlnffefoeppaaDoorQax25
import Derived.Test.YtajlnffefoeppaaDoorQax4
import Derived.Test.YtajlnffefoeppaaDoorQax5
import Derived.Test.YtajlnffefoeppaaDoorQax9
import Derived.Lib.Bytealg
import Derived.Test.YtajlnffefoeppaaDoorQax10
import Derived.Test.YtajlnffefoeppaaDoorQax11
import Derived.Test.YtajlnffefoeppaaDoorQax15
import Derived.Test.YtajlnffefoeppaaDoorQax16
import Derived.Test.YtajlnffefoeppaaDoorQax17
import Derived.Test.YtajlnffefoeppaaDoorQax18
import Derived.Test.YtajlnffefoeppaaDoorQax26
import Derived.Test.YtajlnffefoeppaaDoorQax6
import Derived.Test.YtajlnffefoeppaaDoorQax7
import Derived.Test.YtajlnffefoeppaaDoorQax8
import Derived.Test.YtajlnffefoeppaaDoorQax13
import Derived.Test.YtajlnffefoeppaaDoorQax12
import Derived.Test.YtajlnffefoeppaaDoorZFnOwnedb
import Derived.Test.YtajlnffefoeppaaDoorCards
import Derived.Test.YtajlnffefoeppaaDoorTie
import Derived.WalkKit
import Derived.ProofKit
import Derived.OpenShut
import Derived.ShutString
import Derived.ChangeOld
import Derived.Below
import Derived.SizedLaws
import Derived.Lay
import Derived.LaidOnce
import Derived.SevenTiedAt
namespace Go.Proofs.YtajlnffefoeppaaDoor.Qa
open Go.RowKit Go.Proofs.YtajlnffefoeppaaDoorW.PrintWords Go.Proofs.YtajlnffefoeppaaDoorW.PrintLast Go.Proofs.YtajlnffefoeppaaDoorW.PrintMore
attribute [local go_sem] max2_int min2_int max_two min_two max_three min_three max_four min_four
set_option linter.unusedVariables false
set_option linter.unusedSimpArgs false
set_option maxHeartbeats 8000000
set_option maxRecDepth 100000
/-! ### laws_FnOwned: function 4 -/
mutual
def laws_FnOwned.j0 : Nat → List Int → Option (Bool)
 | 0, _ => none
 | k + 1, x0 => (spec_DrawDropOwned.f k x0).bind fun bt102 => ((impl_DropOwned.f k bt102.1 bt102.2).bind fun bt108 => (if bt108.1 = 0 then (laws_FnOwned.j1 k bt102.1 bt102.2 bt108.1 bt108.2.1 bt108.2.2) else ((spec_DropOwned.f k bt102.1 bt102.2).bind fun bt114 => (some (bt114.1 == bt108.1)))))
def laws_FnOwned.j1 : Nat → List (S44) → List Int → Int → ByteArray → List (S44) → Option (Bool)
 | 0, _, _, _, _, _ => none
 | k + 1, x3, x4, x114000, x114001, x114002 => laws_FnOwned.l0 k x3 x4 0 0 x114000 x114001 x114002
def laws_FnOwned.l0 : Nat → List (S44) → List Int → Int → Int → Int → ByteArray → List (S44) → Option (Bool)
 | 0, _, _, _, _, _, _, _ => none
 | k + 1, x3, x4, x6, x7, x114000, x114001, x114002 => if x7 < (x3.length : Int) then (laws_FnOwned.j3 k x3 x4 x6 x7 x114000 x114001 x114002) else ((impl_TreeFault.f k x114002).bind fun t119 => (if t119 = 0 then (some ((x114002.length : Int) == (wrap64 ((x3.length : Int) - x6)))) else (some false)))
def laws_FnOwned.j3 : Nat → List (S44) → List Int → Int → Int → Int → ByteArray → List (S44) → Option (Bool)
 | 0, _, _, _, _, _, _, _ => none
 | k + 1, x3, x4, x6, x7, x114000, x114001, x114002 => if 0 ≤ x7 then (if x7 < (x3.length : Int) then ((impl_GetZ.f k x114002 ((rd_T44 x3 x7).f0)).bind fun bt121 => (if ((rd_T44 x3 x7).f3) = 0 then (laws_FnOwned.j4 k x3 x4 x6 x7 (bt121.1 == 0) false x114000 x114001 x114002) else ((laws_lwHas.f k x4 ((rd_T44 x3 x7).f3)).bind fun t128 => (laws_FnOwned.j4 k x3 x4 x6 x7 (bt121.1 == 0) t128 x114000 x114001 x114002)))) else (none)) else (none)
def laws_FnOwned.j4 : Nat → List (S44) → List Int → Int → Int → Bool → Bool → Int → ByteArray → List (S44) → Option (Bool)
 | 0, _, _, _, _, _, _, _, _, _ => none
 | k + 1, x3, x4, x6, x7, x8, x9, x114000, x114001, x114002 => if (x8 == x9) = true then (some false) else (if x9 = true then (laws_FnOwned.l0 k x3 x4 (wrap64 (x6 + 1)) (wrap64 (x7 + 1)) x114000 x114001 x114002) else (laws_FnOwned.l0 k x3 x4 x6 (wrap64 (x7 + 1)) x114000 x114001 x114002))
end
def laws_FnOwned.f (k : Nat) (l0 : List Int) : Option (Bool) := (laws_lwBig.f l0).bind fun t101 => (if t101 = true then (some true) else (laws_FnOwned.j0 k l0))
theorem laws_FnOwned.mono_l : ∀ k, (∀ y0, LeO (laws_FnOwned.j0 k y0) (laws_FnOwned.j0 (k + 1) y0)) ∧ (∀ y0 y1 y2 y3 y4, LeO (laws_FnOwned.j1 k y0 y1 y2 y3 y4) (laws_FnOwned.j1 (k + 1) y0 y1 y2 y3 y4)) ∧ (∀ y0 y1 y2 y3 y4 y5 y6, LeO (laws_FnOwned.l0 k y0 y1 y2 y3 y4 y5 y6) (laws_FnOwned.l0 (k + 1) y0 y1 y2 y3 y4 y5 y6)) ∧ (∀ y0 y1 y2 y3 y4 y5 y6, LeO (laws_FnOwned.j3 k y0 y1 y2 y3 y4 y5 y6) (laws_FnOwned.j3 (k + 1) y0 y1 y2 y3 y4 y5 y6)) ∧ (∀ y0 y1 y2 y3 y4 y5 y6 y7 y8, LeO (laws_FnOwned.j4 k y0 y1 y2 y3 y4 y5 y6 y7 y8) (laws_FnOwned.j4 (k + 1) y0 y1 y2 y3 y4 y5 y6 y7 y8))
 | 0 => ⟨fun _ r h => by simp [laws_FnOwned.j0] at h, fun _ _ _ _ _ r h => by simp [laws_FnOwned.j1] at h, fun _ _ _ _ _ _ _ r h => by simp [laws_FnOwned.l0] at h, fun _ _ _ _ _ _ _ r h => by simp [laws_FnOwned.j3] at h, fun _ _ _ _ _ _ _ _ _ r h => by simp [laws_FnOwned.j4] at h⟩
 | k + 1 => by
  obtain ⟨ih0, ih1, ih2, ih3, ih4⟩ := laws_FnOwned.mono_l k
  refine ⟨?_, ?_, ?_, ?_, ?_⟩
  ·
   intro y0
   unfold laws_FnOwned.j0
   repeat' first
   | (with_reducible exact ih0 _)
   | (with_reducible exact ih1 _ _ _ _ _)
   | (with_reducible exact ih2 _ _ _ _ _ _ _)
   | (with_reducible exact ih3 _ _ _ _ _ _ _)
   | (with_reducible exact ih4 _ _ _ _ _ _ _ _ _)
   | (with_reducible exact impl_DropOwned.mono _ _ _)
   | (with_reducible exact impl_GetZ.mono _ _ _)
   | (with_reducible exact impl_TreeFault.mono _ _)
   | (with_reducible exact laws_lwHas.mono _ _ _)
   | (with_reducible exact spec_DrawDropOwned.mono _ _)
   | (with_reducible exact spec_DropOwned.mono _ _ _)
   | (with_reducible exact LeO.refl _)
   | (with_reducible exact LeO.none _)
   | (with_reducible refine LeO.ite ?_ ?_)
   | (with_reducible refine LeO.bind ?_ (fun _ => ?_))
  ·
   intro y0 y1 y2 y3 y4
   unfold laws_FnOwned.j1
   repeat' first
   | (with_reducible exact ih0 _)
   | (with_reducible exact ih1 _ _ _ _ _)
   | (with_reducible exact ih2 _ _ _ _ _ _ _)
   | (with_reducible exact ih3 _ _ _ _ _ _ _)
   | (with_reducible exact ih4 _ _ _ _ _ _ _ _ _)
   | (with_reducible exact impl_DropOwned.mono _ _ _)
   | (with_reducible exact impl_GetZ.mono _ _ _)
   | (with_reducible exact impl_TreeFault.mono _ _)
   | (with_reducible exact laws_lwHas.mono _ _ _)
   | (with_reducible exact spec_DrawDropOwned.mono _ _)
   | (with_reducible exact spec_DropOwned.mono _ _ _)
   | (with_reducible exact LeO.refl _)
   | (with_reducible exact LeO.none _)
   | (with_reducible refine LeO.ite ?_ ?_)
   | (with_reducible refine LeO.bind ?_ (fun _ => ?_))
  ·
   intro y0 y1 y2 y3 y4 y5 y6
   unfold laws_FnOwned.l0
   repeat' first
   | (with_reducible exact ih0 _)
   | (with_reducible exact ih1 _ _ _ _ _)
   | (with_reducible exact ih2 _ _ _ _ _ _ _)
   | (with_reducible exact ih3 _ _ _ _ _ _ _)
   | (with_reducible exact ih4 _ _ _ _ _ _ _ _ _)
   | (with_reducible exact impl_DropOwned.mono _ _ _)
   | (with_reducible exact impl_GetZ.mono _ _ _)
   | (with_reducible exact impl_TreeFault.mono _ _)
   | (with_reducible exact laws_lwHas.mono _ _ _)
   | (with_reducible exact spec_DrawDropOwned.mono _ _)
   | (with_reducible exact spec_DropOwned.mono _ _ _)
   | (with_reducible exact LeO.refl _)
   | (with_reducible exact LeO.none _)
   | (with_reducible refine LeO.ite ?_ ?_)
   | (with_reducible refine LeO.bind ?_ (fun _ => ?_))
  ·
   intro y0 y1 y2 y3 y4 y5 y6
   unfold laws_FnOwned.j3
   repeat' first
   | (with_reducible exact ih0 _)
   | (with_reducible exact ih1 _ _ _ _ _)
   | (with_reducible exact ih2 _ _ _ _ _ _ _)
   | (with_reducible exact ih3 _ _ _ _ _ _ _)
   | (with_reducible exact ih4 _ _ _ _ _ _ _ _ _)
   | (with_reducible exact impl_DropOwned.mono _ _ _)
   | (with_reducible exact impl_GetZ.mono _ _ _)
   | (with_reducible exact impl_TreeFault.mono _ _)
   | (with_reducible exact laws_lwHas.mono _ _ _)
   | (with_reducible exact spec_DrawDropOwned.mono _ _)
   | (with_reducible exact spec_DropOwned.mono _ _ _)
   | (with_reducible exact LeO.refl _)
   | (with_reducible exact LeO.none _)
   | (with_reducible refine LeO.ite ?_ ?_)
   | (with_reducible refine LeO.bind ?_ (fun _ => ?_))
  ·
   intro y0 y1 y2 y3 y4 y5 y6 y7 y8
   unfold laws_FnOwned.j4
   repeat' first
   | (with_reducible exact ih0 _)
   | (with_reducible exact ih1 _ _ _ _ _)
   | (with_reducible exact ih2 _ _ _ _ _ _ _)
   | (with_reducible exact ih3 _ _ _ _ _ _ _)
   | (with_reducible exact ih4 _ _ _ _ _ _ _ _ _)
   | (with_reducible exact impl_DropOwned.mono _ _ _)
   | (with_reducible exact impl_GetZ.mono _ _ _)
   | (with_reducible exact impl_TreeFault.mono _ _)
   | (with_reducible exact laws_lwHas.mono _ _ _)
   | (with_reducible exact spec_DrawDropOwned.mono _ _)
   | (with_reducible exact spec_DropOwned.mono _ _ _)
   | (with_reducible exact LeO.refl _)
   | (with_reducible exact LeO.none _)
   | (with_reducible refine LeO.ite ?_ ?_)
   | (with_reducible refine LeO.bind ?_ (fun _ => ?_))
theorem laws_FnOwned.mono : ∀ a0 k, LeO (laws_FnOwned.f k a0) (laws_FnOwned.f (k + 1) a0) := by
 intro a0 k
 obtain ⟨ih0, ih1, ih2, ih3, ih4⟩ := laws_FnOwned.mono_l k
 unfold laws_FnOwned.f
 repeat' first
   | (with_reducible exact ih0 _)
   | (with_reducible exact ih1 _ _ _ _ _)
   | (with_reducible exact ih2 _ _ _ _ _ _ _)
   | (with_reducible exact ih3 _ _ _ _ _ _ _)
   | (with_reducible exact ih4 _ _ _ _ _ _ _ _ _)
   | (with_reducible exact impl_DropOwned.mono _ _ _)
   | (with_reducible exact impl_GetZ.mono _ _ _)
   | (with_reducible exact impl_TreeFault.mono _ _)
   | (with_reducible exact laws_lwHas.mono _ _ _)
   | (with_reducible exact spec_DrawDropOwned.mono _ _)
   | (with_reducible exact spec_DropOwned.mono _ _ _)
   | (with_reducible exact LeO.refl _)
   | (with_reducible exact LeO.none _)
   | (with_reducible refine LeO.ite ?_ ?_)
   | (with_reducible refine LeO.bind ?_ (fun _ => ?_))
def laws_FnOwned.T6 : Bool × List (List Nat × List Nat) := (true, [([], []), ([], []), ([0, 1], [0, 1]), ([2], [2]), ([], []), ([4], [4]), ([3, 5], [3, 5]), ([6, 2, 0, 1, 2, 3, 4, 5, 6], [6])])
def laws_FnOwned.B6 : List Nat := [0, 0, 3, 7, 0, 16, 63, 127]
theorem laws_FnOwned.tab6 : rtab .any (opsOf Tryd.f4 6) = laws_FnOwned.T6 := by kernel_rfl
theorem laws_FnOwned.bits6 : waitsOk laws_FnOwned.T6.2 laws_FnOwned.B6 = true := by kernel_rfl
def laws_FnOwned.T11 : Bool × List (List Nat × List Nat) := (true, [([], []), ([0], [0]), ([], []), ([], []), ([2, 3], [2, 3]), ([4], [4]), ([5], [5]), ([1, 6], [1, 6]), ([7], [7]), ([8], [8]), ([9, 7, 0, 1, 2, 3, 4, 5, 6, 7, 8, 9], [9])])
def laws_FnOwned.B11 : List Nat := [0, 1, 0, 0, 12, 28, 60, 127, 255, 511, 1023]
theorem laws_FnOwned.tab11 : rtab .any (opsOf Tryd.f4 11) = laws_FnOwned.T11 := by kernel_rfl
theorem laws_FnOwned.bits11 : waitsOk laws_FnOwned.T11.2 laws_FnOwned.B11 = true := by kernel_rfl
theorem pu4 {P : Program} {md : Region.Mode} {ops : Array Oper} {Q : Exit → Act → World → Prop} {S : World → Prop} {ds : List Nat} (i : Nat) (N : Tmp) {oi : Oper} {v : Value} {fuel : Nat} {l l' : Array Bool} {a a' : Act} {w : World} (h : wpAnyLast P md ops Q S ds fuel l' a' w) (hi : ops[i]? = some oi := by rfl) (hN : oi.dst = some N := by rfl) (hl : l.setIfInBounds i true = l' := by simp only [List.setIfInBounds_toArray, List.set_cons_zero, List.set_cons_succ]; rfl) (hc : anyB md ops l l' i = true := by first | exact any_of HT_.out (by kernel_rfl) | kernel_rfl) (hQ : ∀ c a w, Q (.panic c) (a.put oi.dst v) w → Q (.panic c) a w := by exact fun _ _ _ h => h) (hw : Region.wanted oi (yielded ops a.tmps) = true := by rfl) (hy : ∀ w, (execOp a.eval oi).run P w = .ok (.value v) w := by intro w'; go_simp; with_reducible rfl) (ha : a.put (some N) v = a' := by simp only [Act.put, List.setIfInBounds_toArray, List.set_cons_zero, List.set_cons_succ, i64_w, i32_w]; rfl) : wpAnyLast P md ops Q S ds (fuel + 1) l a w := pure_ l' hi hN hc hQ (Or.inl ⟨hw, hy⟩) ha h
theorem pn4 {P : Program} {md : Region.Mode} {ops : Array Oper} {Q : Exit → Act → World → Prop} {S : World → Prop} {ds : List Nat} (i : Nat) (N : Tmp) {oi : Oper} {v : Value} {fuel : Nat} {l l' : Array Bool} {a a' : Act} {w : World} (h : wpAnyLast P md ops Q S ds fuel l' a' w) (hi : ops[i]? = some oi := by rfl) (hN : oi.dst = some N := by rfl) (hl : l.setIfInBounds i true = l' := by simp only [List.setIfInBounds_toArray, List.set_cons_zero, List.set_cons_succ]; rfl) (hv : v = undef := by rfl) (hc : anyB md ops l l' i = true := by first | exact any_of HT_.out (by kernel_rfl) | kernel_rfl) (hQ : ∀ c a w, Q (.panic c) (a.put oi.dst v) w → Q (.panic c) a w := by exact fun _ _ _ h => h) (hw : Region.wanted oi (yielded ops a.tmps) = false := by rfl) (ha : a.put (some N) v = a' := by simp only [Act.put, List.setIfInBounds_toArray, List.set_cons_zero, List.set_cons_succ, i64_w, i32_w]; rfl) : wpAnyLast P md ops Q S ds (fuel + 1) l a w := pure_ l' hi hN hc hQ (Or.inr ⟨hw, hv⟩) ha h
theorem gate_args4 {P : Program} {f : FuncId} {w : World} {R : Ending → World → Prop} (args : Array Value) (h : Calls P f args w R) : Calls P f args w R := h
theorem tk3_4 {P : Program} {md : Region.Mode} {ops : Array Oper} {Q : Exit → Act → World → Prop} {S : World → Prop} {ds : List Nat} (i : Nat) (N : Tmp) {oi : Oper} {v : Value} {fuel : Nat} {l l' : Array Bool} {a a' : Act} {w : World} (h : wpAnyLast P md ops Q S ds fuel l' a' w) (hi : ops[i]? = some oi := by rfl) (hN : oi.dst = some N := by rfl) (hl : l.setIfInBounds i true = l' := by simp only [List.setIfInBounds_toArray, List.set_cons_zero, List.set_cons_succ]; rfl) (hc : takeB md ops ds l l' i = true := by first | exact take_ofW HT_.out HW_.out (by kernel_rfl) | kernel_rfl) (hQ : ∀ c a w, Q (.panic c) (a.put oi.dst v) w → Q (.panic c) a w := by exact fun _ _ _ h => h) (hw : Region.wanted oi (yielded ops a.tmps) = true := by rfl) (hS : S w := by exact hHeld) (hy : ∀ w, S w → (execOp a.eval oi).run P w = .ok (.value v) w := by rintro w' ⟨s0, s1, s2⟩; go_simp; with_reducible rfl) (ha : a.put (some N) v = a' := by simp only [Act.put, List.setIfInBounds_toArray, List.set_cons_zero, List.set_cons_succ, i64_w, i32_w]; rfl) : wpAnyLast P md ops Q S ds (fuel + 1) l a w := take_ l' hi hN hc hQ (Or.inl ⟨hw, hy⟩) hS ha h
theorem tk8_4 {P : Program} {md : Region.Mode} {ops : Array Oper} {Q : Exit → Act → World → Prop} {S : World → Prop} {ds : List Nat} (i : Nat) (N : Tmp) {oi : Oper} {v : Value} {fuel : Nat} {l l' : Array Bool} {a a' : Act} {w : World} (h : wpAnyLast P md ops Q S ds fuel l' a' w) (hi : ops[i]? = some oi := by rfl) (hN : oi.dst = some N := by rfl) (hl : l.setIfInBounds i true = l' := by simp only [List.setIfInBounds_toArray, List.set_cons_zero, List.set_cons_succ]; rfl) (hc : takeB md ops ds l l' i = true := by first | exact take_ofW HT_.out HW_.out (by kernel_rfl) | kernel_rfl) (hQ : ∀ c a w, Q (.panic c) (a.put oi.dst v) w → Q (.panic c) a w := by exact fun _ _ _ h => h) (hw : Region.wanted oi (yielded ops a.tmps) = true := by rfl) (hS : S w := by exact hHeld) (hy : ∀ w, S w → (execOp a.eval oi).run P w = .ok (.value v) w := by rintro w' ⟨s0, s1, s2, s3, s4, s5, s6, s7⟩; go_simp; with_reducible rfl) (ha : a.put (some N) v = a' := by simp only [Act.put, List.setIfInBounds_toArray, List.set_cons_zero, List.set_cons_succ, i64_w, i32_w]; rfl) : wpAnyLast P md ops Q S ds (fuel + 1) l a w := take_ l' hi hN hc hQ (Or.inl ⟨hw, hy⟩) hS ha h
theorem laws_FnOwned.calls (k : Nat) (A0 : Option Addr) (c0 : Nat) (l0 : List Int) (r : Bool) (w : World) (hr0 : Kd.C (Kd.int .u8) w A0 l0.length l0) (hc0 : l0.length ≤ c0) (h : laws_FnOwned.f k l0 = some r) (hrt : r = true) :
  Calls Tryd.prog 4 #[.slice A0 l0.length c0] w fun e w' => e = .returned (.bool r) ∧ Below w.heap.size w w' := by
 have HRT := aa hrt
 clear hrt
 have hfd27_0 : ∀ (v0_ v1_ v2_ : Value) (w_ : World), (Instr.field 27 (.agg #[v0_, v1_, v2_]) 0).run Tryd.prog w_ = .ok (v0_) w_ := fun _ _ _ _ => by kernel_rfl
 have hfd27_1 : ∀ (v0_ v1_ v2_ : Value) (w_ : World), (Instr.field 27 (.agg #[v0_, v1_, v2_]) 1).run Tryd.prog w_ = .ok (v1_) w_ := fun _ _ _ _ => by kernel_rfl
 have hfd27_2 : ∀ (v0_ v1_ v2_ : Value) (w_ : World), (Instr.field 27 (.agg #[v0_, v1_, v2_]) 2).run Tryd.prog w_ = .ok (v2_) w_ := fun _ _ _ _ => by kernel_rfl
 have hu27 := Tryd.underlying27
 have HR0 := aa hr0
 have HC0 := aa hc0
 clear hr0 hc0
 have HB := aa (Below.refl w.heap.size w)
 have H : ((laws_lwBig.f l0).bind fun t101 => (if t101 = true then (some true) else (laws_FnOwned.j0 k l0))) = some r := h
 clear h
 revert H
 refine obs_ fun t101 A2 H => ?_
 have HC3 := aa H
 clear H
 go_enter Tryd.func4, Tryd.ntmps4
 go_upto_if 11 with (first | ((with_reducible refine gate_callee (f := 17) rfl ?_); refine goesL_ (some 11) rfl rfl Tryd.func17 (by kernel_rfl) rfl #[.slice A0 l0.length c0] rfl zjnmae ?_; (with_reducible refine (laws_lwBig.calls _ _ l0 t101 _ ?side1 ?side2 A2.out).mono ?_); (case side1 => exact zebgon); (case side2 => exact HC0.out); rintro e w' ⟨rfl, ⟨nd, rfl⟩⟩; refine ⟨_, rfl, ?_⟩))
 (try simp only [Act.put, List.setIfInBounds_toArray, List.set_cons_zero, List.set_cons_succ])
 go_cut [] (fun wc => ∃ (kq : Nat), Aside0 (laws_FnOwned.j0 kq l0 = some r) ∧ Aside0 (kq ≤ k) ∧ Aside0 (Below w.heap.size w wc))
 case first =>
  have H := HC3.out
  clear HC3
  by_cases c4 : t101 = true
  ·
   subst c4
   replace H : (some true) = some r := by rw [if_pos rfl] at H; exact H
   obtain rfl := Option.some.inj H
   go_wp2
   go_ret
   exact ⟨by first | rfl | (simp [errW_none, errW_some] <;> rfl) | (simp [*, errW_none, errW_some] <;> rfl), by repeat (first | (with_reducible first | exact HB.out | apply below_alloc | apply pw_below_drewN | apply below_drew1) | exact HB.out)⟩
  replace c4 := Bool.eq_false_iff.mpr c4
  subst c4
  replace H : (laws_FnOwned.j0 k l0) = some r := by rw [if_neg (show ¬ (false = true) by decide)] at H; exact H
  have H' := aa H
  clear H
  go_wp2
  go_meet
  case rel => exact ⟨_, H', ⟨by first | omega | exact Nat.le_refl _⟩, ⟨by repeat (first | (with_reducible first | exact HB.out | apply below_alloc | apply pw_below_drewN | apply below_drew1) | exact HB.out)⟩⟩
 case rest =>
  clear HC3
  try clear c1
  try clear p2
  try clear c4
  obtain ⟨kq, HA, HJ2, HB⟩ := hcut
  cases kq with
  | zero => exact absurd HA.out (by simp [laws_FnOwned.j0])
  | succ kj2 =>
   have H := HA.out
   clear HA
   simp only [laws_FnOwned.j0] at H
   replace H := Option.bind_eq_some_iff.mp H
   obtain ⟨⟨t102, t103⟩, A50, H⟩ := H
   replace H : ((impl_DropOwned.f kj2 t102 t103).bind fun bt108 => (if bt108.1 = 0 then (laws_FnOwned.j1 kj2 t102 t103 bt108.1 bt108.2.1 bt108.2.2) else ((spec_DropOwned.f kj2 t102 t103).bind fun bt114 => (some (bt114.1 == bt108.1))))) = some r := H
   have A5 := aa A50
   clear A50
   replace H := Option.bind_eq_some_iff.mp H
   obtain ⟨⟨t108, t109, t110⟩, A60, H⟩ := H
   replace H : (if t108 = 0 then (laws_FnOwned.j1 kj2 t102 t103 t108 t109 t110) else ((spec_DropOwned.f kj2 t102 t103).bind fun bt114 => (some (bt114.1 == t108)))) = some r := H
   have A6 := aa A60
   clear A60
   have HC7 := aa H
   clear H
   go_upto_if 22 with (first | ((with_reducible refine gate_callee (f := 18) rfl ?_); refine goesL_ (some 14) rfl rfl Tryd.func18 (by kernel_rfl) rfl #[.slice A0 l0.length c0] rfl zjnmae ?_; (with_reducible refine (spec_DrawDropOwned.calls kj2 _ _ l0 t102 t103 _ ?side1 ?side2 A5.out).mono ?_); (case side1 => exact zfmbgg); (case side2 => exact HC0.out); rintro e w8 ⟨v104, v106, rfl, ho0, ho1, hb⟩; refine ⟨_, rfl, ?_⟩; have HO105 := aa (Kd.R_lower ho0 (below_size zjjbob)); have HO107 := aa (Kd.R_lower ho1 (below_size zjjbob)); replace HB := aa (below_step zjjbob hb); (try clear hb); (try clear hk); (try clear hi); (try clear ho0); (try clear ho1); obtain ⟨Ao9, co9, eo9⟩ := Kd.R_slice HO105.out; subst eo9; obtain ⟨Ao10, co10, eo10⟩ := Kd.R_slice HO107.out; subst eo10) | ((with_reducible refine gate_callee (f := 9) rfl ?_); refine goesL_ (some 19) rfl rfl Tryd.func9 (by kernel_rfl) rfl #[.slice Ao9 t102.length co9, .slice Ao10 t103.length co10] rfl zjnmae ?_; (with_reducible refine (impl_DropOwned.calls kj2 _ _ t102 _ _ t103 t108 t109 t110 _ ?side1 ?side2 ?side3 ?side4 A6.out).mono ?_); (case side1 => exact zfonbl); (case side2 => exact (Kd.R_reads' HO105.out).2.1); (case side3 => exact zglnde); (case side4 => exact (Kd.R_reads' HO107.out).2.1); rintro e w11 ⟨v111, rfl, ho0, hb⟩; refine ⟨_, rfl, ?_⟩; have n0_ := aa (Kd.R_elder' (zcaken HO105.out) (Kd.R_base ho0) hb); have n1_ := aa (Kd.R_below (zcaken HO107.out) hb); have n2_ := aa (Kd.R_lower (Kd.R_new' ho0 (Kd.R_lt (zcaken HO105.out))) (below_size zjjbob)); have n3_ := aa (below_step zjjbob hb); clear HO105; clear HO107; clear HB; have HO105 := n0_; have HO107 := n1_; have HO112 := n2_; have HB := n3_; clear n0_ n1_ n2_ n3_; (try clear hb); (try clear hk); (try clear hi); (try clear ho0)) | ((with_reducible refine gate_dst (N := 5) rfl ?_); (try (refine gate_guard (by rfl) ?_; dsimp only)); refine box_event ?hg (N := 5) ?hd (cs := #[.int .i64 0, .string (⟨#[]⟩ : ByteArray), .slice none 0 0]) (t := 27) ?hr ?_; (case hd => rfl); (case hg => rfl); (case hr => exact zhlgcp); intro gb113 hg w12 hbox hb; have n0_ := aa (Kd.R_below (zcaken HO105.out) hb); have n1_ := aa (Kd.R_below (zcaken HO107.out) hb); have n2_ := aa (Kd.R_below (zcaken HO112.out) hb); have n3_ := aa (below_step zjjbob hb); have n4_ := aa (hbox); have n5_ := aa ((zkpfjp : w.heap.size ≤ gb113)); have n6_ := aa ((zkpfjp : w.heap.size ≤ gb113)); clear HO105; clear HO107; clear HO112; clear HB; have HO105 := n0_; have HO107 := n1_; have HO112 := n2_; have HB := n3_; have BK113 := n4_; have GW113 := n5_; have GE113 := n6_; clear n0_ n1_ n2_ n3_ n4_ n5_ n6_; clear hb hbox hg; have hcz13_0 : w12.cell? ⟨gb113, 0, none⟩ = some (.int .i64 0) := (blk_cell BK113.out 0).trans rfl; have hcz13_1 : w12.cell? ⟨gb113, 1, none⟩ = some (.string (⟨#[]⟩ : ByteArray)) := (blk_cell BK113.out 1).trans rfl; have hcz13_2 : w12.cell? ⟨gb113, 2, none⟩ = some (.slice none 0 0) := (blk_cell BK113.out 2).trans rfl; have hfz13_0 := blk_frozen BK113.out 0; have hfz13_1 := blk_frozen BK113.out 1; have hfz13_2 := blk_frozen BK113.out 2; obtain ⟨Ao14, co14, eo14⟩ := Kd.R_slice HO112.out; subst eo14))
   (try simp only [Act.put, List.setIfInBounds_toArray, List.set_cons_zero, List.set_cons_succ])
   go_cut [] (fun wc => ∃ (kq : Nat), Aside0 (laws_FnOwned.j1 kq t102 t103 t108 t109 t110 = some r) ∧ Aside0 (kq ≤ kj2) ∧ Aside0 (Kd.R k44 44 wc w.heap.size (fun k_ => some k_ ≠ ((.slice Ao14 t110.length co14) : Value).ownBlock) (.slice Ao9 t102.length co9) t102) ∧ Aside0 (Kd.R (Kd.int .i64) 2 wc w.heap.size (fun _ => True) (.slice Ao10 t103.length co10) t103) ∧ Aside0 (Kd.R k44 44 wc w.heap.size (fun k_ => some k_ ≠ ((.slice Ao9 t102.length co9) : Value).ownBlock) (.slice Ao14 t110.length co14) t110) ∧ Aside0 (wc.heap[gb113]? = some (.cells #[.int .i64 t108, .string t109, (.slice Ao14 t110.length co14)] 27 (0, 0))) ∧ Aside0 (Below w.heap.size w wc))
   case first =>
    have H := HC7.out
    clear HC7
    by_cases c15 : t108 = 0
    ·
     rw [if_pos c15] at H
     have c15b0 : (t108 == 0) = true := beq_iff_eq.mpr c15
     have c15b1 : (t108 != 0) = false := bne_eq_false_iff_eq.mpr c15
     clear c15
     (first | rw [c15b0] | (simp only [i64_w, i32_w]; rw [c15b0]) | (simp only [c15b2, Bool.not_false, Bool.not_true]) | skip)
     have H' := aa H
     clear H
     go_wp2
     go_meet
     case rel => exact ⟨_, H', ⟨by have := HJ2.out; first | omega | exact Nat.le_refl _⟩, ⟨by (with_reducible repeat (first | apply Kd.R_alloc | apply Kd.R_drewN | apply Kd.R_drew)); exact Kd.R_mono (Kd.R_far (p := ⟨gb113, 2, none⟩) (Kd.R_far (p := ⟨gb113, 1, none⟩) (Kd.R_far (p := ⟨gb113, 0, none⟩) (Kd.R_types HO105.out BK113.out (by decide)) (fun _ hk => hk.2) (.int .i64 t108)) (fun _ hk => hk.2) (.string t109)) (fun _ hk => hk.2) (.slice Ao14 t110.length co14)) (fun _ hk => hk.1.2)⟩, ⟨by (with_reducible repeat (first | apply Kd.R_alloc | apply Kd.R_drewN | apply Kd.R_drew)); exact Kd.R_mono (Kd.R_far (p := ⟨gb113, 2, none⟩) (Kd.R_far (p := ⟨gb113, 1, none⟩) (Kd.R_far (p := ⟨gb113, 0, none⟩) (Kd.R_types HO107.out BK113.out (by decide)) (fun _ hk => hk.2) (.int .i64 t108)) (fun _ hk => hk.2) (.string t109)) (fun _ hk => hk.2) (.slice Ao14 t110.length co14)) (fun _ hk => trivial)⟩, ⟨by (with_reducible repeat (first | apply Kd.R_alloc | apply Kd.R_drewN | apply Kd.R_drew)); exact Kd.R_mono (Kd.R_far (p := ⟨gb113, 2, none⟩) (Kd.R_far (p := ⟨gb113, 1, none⟩) (Kd.R_far (p := ⟨gb113, 0, none⟩) (Kd.R_types HO112.out BK113.out (by decide)) (fun _ hk => hk.2) (.int .i64 t108)) (fun _ hk => hk.2) (.string t109)) (fun _ hk => hk.2) (.slice Ao14 t110.length co14)) (fun _ hk => hk.1.2)⟩, ⟨by (with_reducible repeat (first | refine blk_drewN ?_ _ | refine blk_drew ?_ | refine blk_alloc ?_ _)); refine blk_put (cs := #[.int .i64 t108, .string t109, .slice none 0 0]) ?_ 2 _ rfl; (with_reducible repeat (first | refine blk_drewN ?_ _ | refine blk_drew ?_ | refine blk_alloc ?_ _)); refine blk_put (cs := #[.int .i64 t108, .string (⟨#[]⟩ : ByteArray), .slice none 0 0]) ?_ 1 _ rfl; (with_reducible repeat (first | refine blk_drewN ?_ _ | refine blk_drew ?_ | refine blk_alloc ?_ _)); refine blk_put (cs := #[.int .i64 0, .string (⟨#[]⟩ : ByteArray), .slice none 0 0]) ?_ 0 _ rfl; (with_reducible repeat (first | refine blk_drewN ?_ _ | refine blk_drew ?_ | refine blk_alloc ?_ _)); exact BK113.out⟩, ⟨by repeat (first | (with_reducible first | exact HB.out | apply below_alloc | apply pw_below_drewN | apply below_drew1 | refine below_set ?_ GE113.out) | exact HB.out)⟩⟩
    rw [if_neg c15] at H
    have c15b0 : (t108 == 0) = false := beq_eq_false_iff_ne.mpr c15
    have c15b1 : (t108 != 0) = true := bne_iff_ne.mpr c15
    (first | rw [c15b0] | (simp only [i64_w, i32_w]; rw [c15b0]) | (simp only [c15b2, Bool.not_false, Bool.not_true]) | skip)
    replace H := Option.bind_eq_some_iff.mp H
    obtain ⟨⟨t114, t115, t116⟩, A160, H⟩ := H
    replace H : (some (t114 == t108)) = some r := H
    have A16 := aa A160
    clear A160
    obtain rfl := Option.some.inj H
    try go_wp2
    have n0_ : Aside0 (Kd.R k44 44 (((w12.setCell ⟨gb113, 0, none⟩ (.int .i64 t108)).setCell ⟨gb113, 1, none⟩ (.string t109)).setCell ⟨gb113, 2, none⟩ (.slice Ao14 t110.length co14)) w.heap.size (fun k_ => some k_ ≠ (.slice Ao14 t110.length co14 : Value).ownBlock) (.slice Ao9 t102.length co9) t102) := ⟨by (with_reducible repeat (first | apply Kd.R_alloc | apply Kd.R_drewN | apply Kd.R_drew)); exact Kd.R_mono (Kd.R_far (p := ⟨gb113, 2, none⟩) (Kd.R_far (p := ⟨gb113, 1, none⟩) (Kd.R_far (p := ⟨gb113, 0, none⟩) (Kd.R_types HO105.out BK113.out (by decide)) (fun _ hk => hk.2) (.int .i64 t108)) (fun _ hk => hk.2) (.string t109)) (fun _ hk => hk.2) (.slice Ao14 t110.length co14)) (fun _ hk => hk.1.2)⟩
    have n1_ : Aside0 (Kd.R (Kd.int .i64) 2 (((w12.setCell ⟨gb113, 0, none⟩ (.int .i64 t108)).setCell ⟨gb113, 1, none⟩ (.string t109)).setCell ⟨gb113, 2, none⟩ (.slice Ao14 t110.length co14)) w.heap.size (fun _ => True) (.slice Ao10 t103.length co10) t103) := ⟨by (with_reducible repeat (first | apply Kd.R_alloc | apply Kd.R_drewN | apply Kd.R_drew)); exact Kd.R_mono (Kd.R_far (p := ⟨gb113, 2, none⟩) (Kd.R_far (p := ⟨gb113, 1, none⟩) (Kd.R_far (p := ⟨gb113, 0, none⟩) (Kd.R_types HO107.out BK113.out (by decide)) (fun _ hk => hk.2) (.int .i64 t108)) (fun _ hk => hk.2) (.string t109)) (fun _ hk => hk.2) (.slice Ao14 t110.length co14)) (fun _ hk => trivial)⟩
    have n2_ : Aside0 (Kd.R k44 44 (((w12.setCell ⟨gb113, 0, none⟩ (.int .i64 t108)).setCell ⟨gb113, 1, none⟩ (.string t109)).setCell ⟨gb113, 2, none⟩ (.slice Ao14 t110.length co14)) w.heap.size (fun k_ => some k_ ≠ (.slice Ao9 t102.length co9 : Value).ownBlock) (.slice Ao14 t110.length co14) t110) := ⟨by (with_reducible repeat (first | apply Kd.R_alloc | apply Kd.R_drewN | apply Kd.R_drew)); exact Kd.R_mono (Kd.R_far (p := ⟨gb113, 2, none⟩) (Kd.R_far (p := ⟨gb113, 1, none⟩) (Kd.R_far (p := ⟨gb113, 0, none⟩) (Kd.R_types HO112.out BK113.out (by decide)) (fun _ hk => hk.2) (.int .i64 t108)) (fun _ hk => hk.2) (.string t109)) (fun _ hk => hk.2) (.slice Ao14 t110.length co14)) (fun _ hk => hk.1.2)⟩
    have n3_ : Aside0 ((((w12.setCell ⟨gb113, 0, none⟩ (.int .i64 t108)).setCell ⟨gb113, 1, none⟩ (.string t109)).setCell ⟨gb113, 2, none⟩ (.slice Ao14 t110.length co14)).heap[gb113]? = some (.cells #[.int .i64 t108, .string t109, .slice Ao14 t110.length co14] 27 (0, 0))) := ⟨by (with_reducible repeat (first | refine blk_drewN ?_ _ | refine blk_drew ?_ | refine blk_alloc ?_ _)); refine blk_put (cs := #[.int .i64 t108, .string t109, .slice none 0 0]) ?_ 2 _ rfl; (with_reducible repeat (first | refine blk_drewN ?_ _ | refine blk_drew ?_ | refine blk_alloc ?_ _)); refine blk_put (cs := #[.int .i64 t108, .string (⟨#[]⟩ : ByteArray), .slice none 0 0]) ?_ 1 _ rfl; (with_reducible repeat (first | refine blk_drewN ?_ _ | refine blk_drew ?_ | refine blk_alloc ?_ _)); refine blk_put (cs := #[.int .i64 0, .string (⟨#[]⟩ : ByteArray), .slice none 0 0]) ?_ 0 _ rfl; (with_reducible repeat (first | refine blk_drewN ?_ _ | refine blk_drew ?_ | refine blk_alloc ?_ _)); exact BK113.out⟩
    have n4_ : Aside0 (Below w.heap.size w (((w12.setCell ⟨gb113, 0, none⟩ (.int .i64 t108)).setCell ⟨gb113, 1, none⟩ (.string t109)).setCell ⟨gb113, 2, none⟩ (.slice Ao14 t110.length co14))) := ⟨by repeat (first | (with_reducible first | exact HB.out | apply below_alloc | apply pw_below_drewN | apply below_drew1 | refine below_set ?_ GE113.out) | exact HB.out)⟩
    (try clear HO105)
    (try clear HO107)
    (try clear HO112)
    (try clear BK113)
    (try clear HB)
    generalize (((w12.setCell ⟨gb113, 0, none⟩ (.int .i64 t108)).setCell ⟨gb113, 1, none⟩ (.string t109)).setCell ⟨gb113, 2, none⟩ (.slice Ao14 t110.length co14)) = w17 at n0_ n1_ n2_ n3_ n4_ ⊢
    have HO105 := n0_
    have HO107 := n1_
    have HO112 := n2_
    have BK113 := n3_
    have HB := n4_
    clear n0_ n1_ n2_ n3_ n4_
    replace HO105 := aa (Kd.R_drew HO105.out)
    replace HO107 := aa (Kd.R_drew HO107.out)
    replace HO112 := aa (Kd.R_drew HO112.out)
    replace BK113 := aa (blk_drew BK113.out)
    replace HB := aa (below_drew1 HB.out)
    refine start_ (n := 8) (S := fun w' => w'.cell? ⟨gb113, 0, none⟩ = some (.int .i64 t108) ∧ w'.cell? ⟨gb113, 1, none⟩ = some (.string t109) ∧ w'.cell? ⟨gb113, 2, none⟩ = some (.slice Ao14 t110.length co14)) (ds := []) #[false, false, false, false, false, false, false, false] (by kernel_rfl) rfl rfl ⟨(blk_cell BK113.out 0).trans rfl, (blk_cell BK113.out 1).trans rfl, (blk_cell BK113.out 2).trans rfl⟩ (fun hHeld => ?_); refine with_tabW laws_FnOwned.tab6 laws_FnOwned.bits6 (fun HT_ HW_ => ?_)
    generalize w17.drew = w18 at HO105 HO107 HO112 BK113 HB hHeld ⊢
    refine pu4 0 23 ?_
    refine pu4 1 24 ?_
    refine pu4 4 27 ?_
    refine tk3_4 5 28 ?_
    refine one_ (i := 2) (N := some 25) #[true, true, true, false, true, true, false, false] rfl rfl (one_of HT_.out (by kernel_rfl)) (by decide) (fun K hK => ?_)
    refine goes_ Tryd.func6 (by kernel_rfl) rfl #[.slice Ao9 t102.length co9, .slice Ao10 t103.length co10] (by rfl) rfl rfl zjnmae ?_
    with_reducible refine (spec_DropOwned.calls kj2 _ _ t102 _ _ t103 t114 t115 t116 _ ?side1 ?side2 ?side3 ?side4 A16.out).mono ?_
    (case side1 => exact zfonbl)
    (case side2 => exact (Kd.R_reads' HO105.out).2.1)
    (case side3 => exact zglnde)
    (case side4 => exact (Kd.R_reads' HO107.out).2.1)
    rintro e w19 ⟨v117, rfl, ho0, hb⟩
    refine ⟨_, rfl, ?_⟩
    have n0_ := aa (Kd.R_elder' (zcaken HO105.out) (Kd.R_base ho0) hb)
    have n1_ := aa (Kd.R_below (zcaken HO107.out) hb)
    have n2_ := aa (Kd.R_elder' (zcaken HO112.out) (Kd.R_base ho0) hb)
    have n3_ := aa (Kd.R_lower (Kd.R_new' (Kd.R_new' ho0 (Kd.R_lt (zcaken HO105.out))) (Kd.R_lt (zcaken HO112.out))) (below_size zaooek))
    have n4_ := aa (blk_below (g := gb113) (o := .cells #[.int .i64 t108, .string t109, .slice Ao14 t110.length co14] 27 (0, 0)) (zkjhpm BK113.out) hb)
    have n5_ := aa (below_step zaooek hb)
    clear HO105
    clear HO107
    clear HO112
    clear BK113
    clear HB
    have HO105 := n0_
    have HO107 := n1_
    have HO112 := n2_
    have HO118 := n3_
    have BK113 := n4_
    have HB := n5_
    clear n0_ n1_ n2_ n3_ n4_ n5_
    (try clear hb)
    (try clear hb2)
    (try clear hk)
    (try clear hi)
    (try clear ho0)
    refine hK.out _ _ ⟨(blk_cell BK113.out 0).trans rfl, (blk_cell BK113.out 1).trans rfl, (blk_cell BK113.out 2).trans rfl⟩ (fun hHeld => ?_)
    clear hK K
    refine norm_ (a' := ?_) ?_ ?_
    rotate_left
    ·
     show Act.put _ (some 25) _ = _
     simp only [Act.put, List.setIfInBounds_toArray, List.set_cons_zero, List.set_cons_succ, i64_w, i32_w]
     rfl
    refine pu4 3 26 ?_
    refine pu4 6 29 ?_
    refine pu4 7 2 ?_
    refine done_ (done_of HT_.out (by kernel_rfl)) ?_
    try go_wp2
    go_ret
    exact ⟨by first | rfl | (simp [errW_none, errW_some] <;> rfl) | (simp [*, errW_none, errW_some] <;> rfl), by repeat (first | (with_reducible first | exact HB.out | apply below_alloc | apply pw_below_drewN | apply below_drew1 | refine below_set ?_ GE113.out) | exact HB.out)⟩
   case rest =>
    clear HC7
    try clear c1
    try clear p2
    try clear c4
    try clear c6
    try clear c9
    try clear c15
    try clear c15b0
    try clear c15b1
    try clear c15b2
    try clear c17
    try clear c18
    try clear hcz13_0
    try clear hcz13_1
    try clear hcz13_2
    try clear hfz13_0
    try clear hfz13_1
    try clear hfz13_2
    try clear p2
    obtain ⟨kq, HA, HJ6, HO_3, HO_4, HO_114002, BK113, HB⟩ := hcut
    cases kq with
    | zero => exact absurd HA.out (by simp [laws_FnOwned.j1])
    | succ kj6 =>
     have H := HA.out
     clear HA
     simp only [laws_FnOwned.j1] at H
     have H' := aa H
     clear H
     go_wp2
     go_loopg [6, 7] kj6 (fun kq v6 v7 w' => ∃ (x6_3 : Int) (x7_3 : Int), v6 = .int .i64 x6_3 ∧ v7 = .int .i64 x7_3 ∧ Aside0 (laws_FnOwned.l0 kq t102 t103 x6_3 x7_3 t108 t109 t110 = some r) ∧ Aside0 (kq ≤ kj6) ∧ Aside0 (Kd.R k44 44 w' w.heap.size (fun k_ => some k_ ≠ ((.slice Ao14 t110.length co14) : Value).ownBlock) (.slice Ao9 t102.length co9) t102) ∧ Aside0 (Kd.R (Kd.int .i64) 2 w' w.heap.size (fun _ => True) (.slice Ao10 t103.length co10) t103) ∧ Aside0 (Kd.R k44 44 w' w.heap.size (fun k_ => some k_ ≠ ((.slice Ao9 t102.length co9) : Value).ownBlock) (.slice Ao14 t110.length co14) t110) ∧ Aside0 (w'.heap[gb113]? = some (.cells #[.int .i64 t108, .string t109, (.slice Ao14 t110.length co14)] 27 (0, 0))) ∧ Aside0 (Below w.heap.size w w'))
     case atStart => exact ⟨(0), (0), zagbkp, zagbkp, H', ⟨Nat.le_refl _⟩, ⟨by (with_reducible repeat (first | apply Kd.R_alloc | apply Kd.R_drewN | apply Kd.R_drew)); exact HO_3.out⟩, ⟨by (with_reducible repeat (first | apply Kd.R_alloc | apply Kd.R_drewN | apply Kd.R_drew)); exact HO_4.out⟩, ⟨by (with_reducible repeat (first | apply Kd.R_alloc | apply Kd.R_drewN | apply Kd.R_drew)); exact HO_114002.out⟩, ⟨by (with_reducible repeat (first | refine blk_drewN ?_ _ | refine blk_drew ?_ | refine blk_alloc ?_ _)); exact BK113.out⟩, ⟨by repeat (first | (with_reducible first | exact HB.out | apply below_alloc | apply pw_below_drewN | apply below_drew1 | refine below_set ?_ GE113.out) | exact HB.out)⟩⟩
     case round =>
      clear H'
      try clear c1
      try clear p2
      try clear c4
      try clear c6
      try clear c9
      try clear c15
      try clear c15b0
      try clear c15b1
      try clear c15b2
      try clear c17
      try clear c18
      try clear hcz13_0
      try clear hcz13_1
      try clear hcz13_2
      try clear hfz13_0
      try clear hfz13_1
      try clear hfz13_2
      try clear p2
      obtain ⟨x6_3, x7_3, rfl, rfl, HA, HK3, HO_3, HO_4, HO_114002, BK113, HB⟩ := hrel
      cases gk with
      | zero => exact absurd HA.out (by simp [laws_FnOwned.l0])
      | succ k3 =>
       have H := HA.out
       clear HA
       simp only [laws_FnOwned.l0] at H
       have HC20 := aa H
       clear H
       go_upto_if 33 with (fail)
       go_cut [] (fun wc => ∃ (kq : Nat), Aside0 (laws_FnOwned.j3 kq t102 t103 x6_3 x7_3 t108 t109 t110 = some r) ∧ Aside0 (kq ≤ k3) ∧ Aside0 (Kd.R k44 44 wc w.heap.size (fun k_ => some k_ ≠ ((.slice Ao14 t110.length co14) : Value).ownBlock) (.slice Ao9 t102.length co9) t102) ∧ Aside0 (Kd.R (Kd.int .i64) 2 wc w.heap.size (fun _ => True) (.slice Ao10 t103.length co10) t103) ∧ Aside0 (Kd.R k44 44 wc w.heap.size (fun k_ => some k_ ≠ ((.slice Ao9 t102.length co9) : Value).ownBlock) (.slice Ao14 t110.length co14) t110) ∧ Aside0 (wc.heap[gb113]? = some (.cells #[.int .i64 t108, .string t109, (.slice Ao14 t110.length co14)] 27 (0, 0))) ∧ Aside0 (Below w.heap.size w wc))
       case first =>
        have H := HC20.out
        clear HC20
        by_cases c21 : x7_3 < (t102.length : Int)
        ·
         rw [if_pos c21] at H
         have c21b0 : decide (x7_3 < (t102.length : Int)) = true := decide_eq_true c21
         clear c21
         (first | rw [c21b0] | (simp only [i64_w, i32_w]; rw [c21b0]) | (simp only [c21b2, Bool.not_false, Bool.not_true]) | skip)
         have H' := aa H
         clear H
         go_wp2
         go_meet
         case rel => exact ⟨_, H', ⟨by have := HJ2.out; have := HJ6.out; have := HK3.out; first | omega | exact Nat.le_refl _⟩, ⟨by (with_reducible repeat (first | apply Kd.R_alloc | apply Kd.R_drewN | apply Kd.R_drew)); exact HO_3.out⟩, ⟨by (with_reducible repeat (first | apply Kd.R_alloc | apply Kd.R_drewN | apply Kd.R_drew)); exact HO_4.out⟩, ⟨by (with_reducible repeat (first | apply Kd.R_alloc | apply Kd.R_drewN | apply Kd.R_drew)); exact HO_114002.out⟩, ⟨by (with_reducible repeat (first | refine blk_drewN ?_ _ | refine blk_drew ?_ | refine blk_alloc ?_ _)); exact BK113.out⟩, ⟨by repeat (first | (with_reducible first | exact HB.out | apply below_alloc | apply pw_below_drewN | apply below_drew1 | refine below_set ?_ GE113.out) | exact HB.out)⟩⟩
        rw [if_neg c21] at H
        have c21b0 : decide (x7_3 < (t102.length : Int)) = false := decide_eq_false c21
        clear c21
        (first | rw [c21b0] | (simp only [i64_w, i32_w]; rw [c21b0]) | (simp only [c21b2, Bool.not_false, Bool.not_true]) | skip)
        revert H
        refine obs_ fun t119 A22 H => ?_
        by_cases c23 : t119 = 0
        rotate_left
        ·
         rw [if_neg c23] at H
         have c23b0 : (t119 == 0) = false := beq_eq_false_iff_ne.mpr c23
         have c23b1 : (t119 != 0) = true := bne_iff_ne.mpr c23
         obtain rfl := Option.some.inj H
         exact absurd HRT.out (by decide)
        rw [if_pos c23] at H
        have c23b0 : (t119 == 0) = true := beq_iff_eq.mpr c23
        have c23b1 : (t119 != 0) = false := bne_eq_false_iff_eq.mpr c23
        clear c23
        obtain rfl := Option.some.inj H
        have hcz24_0 : wr.cell? ⟨gb113, 0, none⟩ = some (.int .i64 t108) := (blk_cell BK113.out 0).trans rfl
        have hcz24_1 : wr.cell? ⟨gb113, 1, none⟩ = some (.string t109) := (blk_cell BK113.out 1).trans rfl
        have hcz24_2 : wr.cell? ⟨gb113, 2, none⟩ = some (.slice Ao14 t110.length co14) := (blk_cell BK113.out 2).trans rfl
        have hfz24_0 := blk_frozen BK113.out 0
        have hfz24_1 := blk_frozen BK113.out 1
        have hfz24_2 := blk_frozen BK113.out 2
        go_wp2_with (first | ((with_reducible refine gate_callee (f := 21) rfl ?_); refine goesL_ (some 69) rfl rfl Tryd.func21 (by kernel_rfl) rfl #[.slice Ao14 t110.length co14] rfl zjnmae ?_; (with_reducible refine (impl_TreeFault.calls k3 _ _ t110 t119 _ ?side1 ?side2 A22.out).mono ?_); (case side1 => exact zficko); (case side2 => exact (Kd.R_reads' HO_114002.out).2.1); rintro e w25 ⟨rfl, hb⟩; refine ⟨_, rfl, ?_⟩; replace HO_3 := aa (Kd.R_below (zcaken HO_3.out) hb); replace HO_4 := aa (Kd.R_below (zcaken HO_4.out) hb); replace HO_114002 := aa (Kd.R_below (zcaken HO_114002.out) hb); replace BK113 := aa (blk_below (g := gb113) (o := .cells #[.int .i64 t108, .string t109, .slice Ao14 t110.length co14] 27 (0, 0)) (zkjhpm BK113.out) hb); replace HB := aa (below_step zaooek hb); (try clear hb); (try clear hk); (try clear hi); have hcz26_0 : w25.cell? ⟨gb113, 0, none⟩ = some (.int .i64 t108) := (blk_cell BK113.out 0).trans rfl; have hcz26_1 : w25.cell? ⟨gb113, 1, none⟩ = some (.string t109) := (blk_cell BK113.out 1).trans rfl; have hcz26_2 : w25.cell? ⟨gb113, 2, none⟩ = some (.slice Ao14 t110.length co14) := (blk_cell BK113.out 2).trans rfl; have hfz26_0 := blk_frozen BK113.out 0; have hfz26_1 := blk_frozen BK113.out 1; have hfz26_2 := blk_frozen BK113.out 2))
        go_ret
        exact ⟨by first | rfl | (simp [errW_none, errW_some] <;> rfl) | (simp [*, errW_none, errW_some] <;> rfl), by repeat (first | (with_reducible first | exact HB.out | apply below_alloc | apply pw_below_drewN | apply below_drew1 | refine below_set ?_ GE113.out) | exact HB.out)⟩
       case rest =>
        clear HC20
        try clear c1
        try clear c2
        try clear p2
        try clear c4
        try clear c6
        try clear p6
        try clear c9
        try clear c15
        try clear c15b0
        try clear c15b1
        try clear c15b2
        try clear c17
        try clear c18
        try clear c21
        try clear c21b0
        try clear c21b2
        try clear c23
        try clear c23b0
        try clear c23b1
        try clear hcz13_0
        try clear hcz13_1
        try clear hcz13_2
        try clear hcz24_0
        try clear hcz24_1
        try clear hcz24_2
        try clear hcz26_0
        try clear hcz26_1
        try clear hcz26_2
        try clear hcz27_0
        try clear hcz27_1
        try clear hcz27_2
        try clear hfz13_0
        try clear hfz13_1
        try clear hfz13_2
        try clear hfz24_0
        try clear hfz24_1
        try clear hfz24_2
        try clear hfz26_0
        try clear hfz26_1
        try clear hfz26_2
        try clear hfz27_0
        try clear hfz27_1
        try clear hfz27_2
        try clear p2
        obtain ⟨kq, HA, HJ19, HO_3, HO_4, HO_114002, BK113, HB⟩ := hcut
        cases kq with
        | zero => exact absurd HA.out (by simp [laws_FnOwned.j3])
        | succ kj19 =>
         have H := HA.out
         clear HA
         simp only [laws_FnOwned.j3] at H
         by_cases c29 : 0 ≤ x7_3
         rotate_left
         ·
          rw [if_neg c29] at H
          exact absurd H (by simp)
         rw [if_pos c29] at H
         have c29b0 : decide (0 ≤ x7_3) = true := decide_eq_true c29
         clear c29
         by_cases c30 : x7_3 < (t102.length : Int)
         rotate_left
         ·
          rw [if_neg c30] at H
          exact absurd H (by simp)
         rw [if_pos c30] at H
         have c30b0 : decide (x7_3 < (t102.length : Int)) = true := decide_eq_true c30
         clear c30
         replace H := Option.bind_eq_some_iff.mp H
         obtain ⟨⟨t121, t122, t123⟩, A310, H⟩ := H
         replace H : (if ((rd_T44 t102 x7_3).f3) = 0 then (laws_FnOwned.j4 kj19 t102 t103 x6_3 x7_3 (t121 == 0) false t108 t109 t110) else ((laws_lwHas.f kj19 t103 ((rd_T44 t102 x7_3).f3)).bind fun t128 => (laws_FnOwned.j4 kj19 t102 t103 x6_3 x7_3 (t121 == 0) t128 t108 t109 t110))) = some r := H
         have A31 := aa A310
         clear A310
         have HC32 := aa H
         clear H
         try go_wp2
         replace HO_3 := aa (Kd.R_drew HO_3.out)
         replace HO_4 := aa (Kd.R_drew HO_4.out)
         replace HO_114002 := aa (Kd.R_drew HO_114002.out)
         replace BK113 := aa (blk_drew BK113.out)
         replace HB := aa (below_drew1 HB.out)
         have p120 : 0 ≤ (x7_3 : Int) := of_decide_eq_true zgglam
         have q120 : x7_3 < (t102.length : Int) := of_decide_eq_true zgglam
         obtain ⟨ad120, e120, hx120_0, hx120_1, hx120_2, hx120_3, hx120_4⟩ := at_T44 (Kd.R_reads' HO_3.out).2.2 x7_3 p120 q120
         cases e120
         replace p120 := eq_true p120
         replace q120 := eq_true q120
         refine start_ (n := 11) (S := fun w' => w'.cell? ⟨gb113, 0, none⟩ = some (.int .i64 t108) ∧ w'.cell? ⟨gb113, 1, none⟩ = some (.string t109) ∧ w'.cell? ⟨gb113, 2, none⟩ = some (.slice Ao14 t110.length co14) ∧ w'.cell? (ad120.add ((x7_3).toNat * 5)) = some (.string ((rd_T44 t102 x7_3).f0)) ∧ w'.cell? ⟨(ad120.add ((x7_3).toNat * 5)).block, (ad120.add ((x7_3).toNat * 5)).off + 1, none⟩ = some (.int .i64 ((rd_T44 t102 x7_3).f1)) ∧ w'.cell? ⟨(ad120.add ((x7_3).toNat * 5)).block, (ad120.add ((x7_3).toNat * 5)).off + 2, none⟩ = some (.int .i64 ((rd_T44 t102 x7_3).f2)) ∧ w'.cell? ⟨(ad120.add ((x7_3).toNat * 5)).block, (ad120.add ((x7_3).toNat * 5)).off + 3, none⟩ = some (.int .i64 ((rd_T44 t102 x7_3).f3)) ∧ w'.cell? ⟨(ad120.add ((x7_3).toNat * 5)).block, (ad120.add ((x7_3).toNat * 5)).off + 4, none⟩ = some (.int .i64 ((rd_T44 t102 x7_3).f4))) (ds := []) #[false, false, false, false, false, false, false, false, false, false, false] (by kernel_rfl) rfl rfl ⟨(blk_cell BK113.out 0).trans rfl, (blk_cell BK113.out 1).trans rfl, (blk_cell BK113.out 2).trans rfl, hx120_0, hx120_1, hx120_2, hx120_3, hx120_4⟩ (fun hHeld => ?_); refine with_tabW laws_FnOwned.tab11 laws_FnOwned.bits11 (fun HT_ HW_ => ?_)
         generalize wc.drew = w33 at HO_3 HO_4 HO_114002 BK113 HB hx120_0 hx120_1 hx120_2 hx120_3 hx120_4 hHeld ⊢
         refine pu4 0 36 ?_
         refine pu4 2 38 ?_
         refine pu4 3 39 ?_
         refine pu4 4 40 ?_
         refine pu4 5 41 ?_
         refine tk8_4 1 37 ?_
         refine tk8_4 6 42 ?_
         refine one_ (i := 7) (N := some 43) #[true, true, true, true, true, true, true, true, false, false, false] rfl rfl (one_of HT_.out (by kernel_rfl)) (by decide) (fun K hK => ?_)
         refine goes_ Tryd.func19 (by kernel_rfl) rfl #[.slice Ao14 t110.length co14, .string ((rd_T44 t102 x7_3).f0)] (by rfl) rfl rfl zjnmae ?_
         with_reducible refine (impl_GetZ.calls kj19 _ _ t110 ((rd_T44 t102 x7_3).f0) t121 t122 t123 _ ?side1 ?side2 A31.out).mono ?_
         (case side1 => exact zficko)
         (case side2 => exact (Kd.R_reads' HO_114002.out).2.1)
         rintro e w34 ⟨v124, rfl, ho0, hb⟩
         have HS3_ := (hb.cell (World.block_lt_of_cell? _ _ (hHeld.2.2.2.1))).trans (hHeld.2.2.2.1)
         have HS4_ := (hb.cell (World.block_lt_of_cell? _ _ (hHeld.2.2.2.2.1))).trans (hHeld.2.2.2.2.1)
         have HS5_ := (hb.cell (World.block_lt_of_cell? _ _ (hHeld.2.2.2.2.2.1))).trans (hHeld.2.2.2.2.2.1)
         have HS6_ := (hb.cell (World.block_lt_of_cell? _ _ (hHeld.2.2.2.2.2.2.1))).trans (hHeld.2.2.2.2.2.2.1)
         have HS7_ := (hb.cell (World.block_lt_of_cell? _ _ (hHeld.2.2.2.2.2.2.2))).trans (hHeld.2.2.2.2.2.2.2)
         refine ⟨_, rfl, ?_⟩
         have n0_ := aa (Kd.R_elder' (zcaken HO_3.out) (Kd.R_base ho0) hb)
         have n1_ := aa (Kd.R_below (zcaken HO_4.out) hb)
         have n2_ := aa (Kd.R_elder' (zcaken HO_114002.out) (Kd.R_base ho0) hb)
         have n3_ := aa (Kd.R_lower (Kd.R_new' (Kd.R_new' ho0 (Kd.R_lt (zcaken HO_3.out))) (Kd.R_lt (zcaken HO_114002.out))) (below_size zaooek))
         have n4_ := aa (blk_below (g := gb113) (o := .cells #[.int .i64 t108, .string t109, .slice Ao14 t110.length co14] 27 (0, 0)) (zkjhpm BK113.out) hb)
         have n5_ := aa (below_step zaooek hb)
         clear HO_3
         clear HO_4
         clear HO_114002
         clear BK113
         clear HB
         have HO_3 := n0_
         have HO_4 := n1_
         have HO_114002 := n2_
         have HO125 := n3_
         have BK113 := n4_
         have HB := n5_
         clear n0_ n1_ n2_ n3_ n4_ n5_
         (try clear hb)
         (try clear hb2)
         (try clear hk)
         (try clear hi)
         (try clear ho0)
         refine hK.out _ _ ⟨(blk_cell BK113.out 0).trans rfl, (blk_cell BK113.out 1).trans rfl, (blk_cell BK113.out 2).trans rfl, HS3_, HS4_, HS5_, HS6_, HS7_⟩ (fun hHeld => ?_)
         clear hK K
         refine norm_ (a' := ?_) ?_ ?_
         rotate_left
         ·
          show Act.put _ (some 43) _ = _
          simp only [Act.put, List.setIfInBounds_toArray, List.set_cons_zero, List.set_cons_succ, i64_w, i32_w]
          rfl
         refine pu4 8 44 ?_
         refine pu4 9 45 ?_
         refine pu4 10 8 ?_
         refine done_ (done_of HT_.out (by kernel_rfl)) ?_
         go_upto_region 12 with (fail)
         go_cut [9] (fun v9 wc => ∃ (kq : Nat) (x9_31 : Bool), v9 = .bool x9_31 ∧ Aside0 (laws_FnOwned.j4 kq t102 t103 x6_3 x7_3 (t121 == 0) x9_31 t108 t109 t110 = some r) ∧ Aside0 (kq ≤ kj19) ∧ Aside0 (Kd.R k44 44 wc w.heap.size (fun k_ => some k_ ≠ ((.slice Ao14 t110.length co14) : Value).ownBlock) (.slice (some ad120) t102.length co9) t102) ∧ Aside0 (Kd.R (Kd.int .i64) 2 wc w.heap.size (fun _ => True) (.slice Ao10 t103.length co10) t103) ∧ Aside0 (Kd.R k44 44 wc w.heap.size (fun k_ => some k_ ≠ ((.slice (some ad120) t102.length co9) : Value).ownBlock) (.slice Ao14 t110.length co14) t110) ∧ Aside0 (wc.heap[gb113]? = some (.cells #[.int .i64 t108, .string t109, (.slice Ao14 t110.length co14)] 27 (0, 0))) ∧ Aside0 (Below w.heap.size w wc))
         case first =>
          have H := HC32.out
          clear HC32
          by_cases c35 : ((rd_T44 t102 x7_3).f3) = 0
          ·
           rw [if_pos c35] at H
           have c35b0 : (((rd_T44 t102 x7_3).f3) == 0) = true := beq_iff_eq.mpr c35
           have c35b1 : (((rd_T44 t102 x7_3).f3) != 0) = false := bne_eq_false_iff_eq.mpr c35
           clear c35
           (first | rw [c35b0] | (simp only [i64_w, i32_w]; rw [c35b0]) | (simp only [c35b2, Bool.not_false, Bool.not_true]) | skip)
           have H' := aa H
           clear H
           have p126 : 0 ≤ (x7_3 : Int) := of_decide_eq_true zgglam
           have q126 : x7_3 < (t102.length : Int) := of_decide_eq_true zgglam
           obtain ⟨ad126, e126, hx126_0, hx126_1, hx126_2, hx126_3, hx126_4⟩ := at_T44 (Kd.R_reads' HO_3.out).2.2 x7_3 p126 q126
           obtain rfl : ad120 = ad126 := (by injection e126)
           replace p126 := eq_true p126
           replace q126 := eq_true q126
           go_wp2
           go_meet
           case rel => exact ⟨_, (false), zagbkp, H', ⟨by have := HJ2.out; have := HJ6.out; have := HK3.out; have := HJ19.out; first | omega | exact Nat.le_refl _⟩, ⟨by (with_reducible repeat (first | apply Kd.R_alloc | apply Kd.R_drewN | apply Kd.R_drew)); exact Kd.R_mono HO_3.out (fun _ hk => hk.1)⟩, ⟨by (with_reducible repeat (first | apply Kd.R_alloc | apply Kd.R_drewN | apply Kd.R_drew)); exact HO_4.out⟩, ⟨by (with_reducible repeat (first | apply Kd.R_alloc | apply Kd.R_drewN | apply Kd.R_drew)); exact Kd.R_mono HO_114002.out (fun _ hk => hk.1)⟩, ⟨by (with_reducible repeat (first | refine blk_drewN ?_ _ | refine blk_drew ?_ | refine blk_alloc ?_ _)); exact BK113.out⟩, ⟨by repeat (first | (with_reducible first | exact HB.out | apply below_alloc | apply pw_below_drewN | apply below_drew1 | refine below_set ?_ GE113.out) | exact HB.out)⟩⟩
          rw [if_neg c35] at H
          have c35b0 : (((rd_T44 t102 x7_3).f3) == 0) = false := beq_eq_false_iff_ne.mpr c35
          have c35b1 : (((rd_T44 t102 x7_3).f3) != 0) = true := bne_iff_ne.mpr c35
          (first | rw [c35b0] | (simp only [i64_w, i32_w]; rw [c35b0]) | (simp only [c35b2, Bool.not_false, Bool.not_true]) | skip)
          revert H
          refine obs_ fun t128 A36 H => ?_
          have H' := aa H
          clear H
          have p126 : 0 ≤ (x7_3 : Int) := of_decide_eq_true zgglam
          have q126 : x7_3 < (t102.length : Int) := of_decide_eq_true zgglam
          obtain ⟨ad126, e126, hx126_0, hx126_1, hx126_2, hx126_3, hx126_4⟩ := at_T44 (Kd.R_reads' HO_3.out).2.2 x7_3 p126 q126
          obtain rfl : ad120 = ad126 := (by injection e126)
          replace p126 := eq_true p126
          replace q126 := eq_true q126
          have p127 : 0 ≤ (x7_3 : Int) := of_decide_eq_true zgglam
          have q127 : x7_3 < (t102.length : Int) := of_decide_eq_true zgglam
          obtain ⟨ad127, e127, hx127_0, hx127_1, hx127_2, hx127_3, hx127_4⟩ := at_T44 (Kd.R_reads' HO_3.out).2.2 x7_3 p127 q127
          obtain rfl : ad120 = ad127 := (by injection e127)
          replace p127 := eq_true p127
          replace q127 := eq_true q127
          go_wp2_with (first | (go_at_call 20; (with_reducible refine gate_args4 #[.slice _ t103.length _, .int .i64 ((rd_T44 t102 x7_3).f3)] ?_); (with_reducible refine (laws_lwHas.calls kj19 _ _ t103 ((rd_T44 t102 x7_3).f3) t128 _ ?side1 ?side2 A36.out).mono ?_); (case side1 => repeat (first | exact (Kd.R_reads' HO_4.out).2.2 | (with_reducible refine Kd.C_alloc ?_ _) | (with_reducible refine Kd.C_drewN ?_ _) | (with_reducible refine Kd.C_drew ?_))); (case side2 => exact (Kd.R_reads' HO_4.out).2.1); rintro e w' ⟨rfl, ⟨nd, rfl⟩⟩))
          go_meet
          case rel => exact ⟨_, (t128), zagbkp, H', ⟨by have := HJ2.out; have := HJ6.out; have := HK3.out; have := HJ19.out; first | omega | exact Nat.le_refl _⟩, ⟨by (with_reducible repeat (first | apply Kd.R_alloc | apply Kd.R_drewN | apply Kd.R_drew)); exact Kd.R_mono HO_3.out (fun _ hk => hk.1)⟩, ⟨by (with_reducible repeat (first | apply Kd.R_alloc | apply Kd.R_drewN | apply Kd.R_drew)); exact HO_4.out⟩, ⟨by (with_reducible repeat (first | apply Kd.R_alloc | apply Kd.R_drewN | apply Kd.R_drew)); exact Kd.R_mono HO_114002.out (fun _ hk => hk.1)⟩, ⟨by (with_reducible repeat (first | refine blk_drewN ?_ _ | refine blk_drew ?_ | refine blk_alloc ?_ _)); exact BK113.out⟩, ⟨by repeat (first | (with_reducible first | exact HB.out | apply below_alloc | apply pw_below_drewN | apply below_drew1 | refine below_set ?_ GE113.out) | exact HB.out)⟩⟩
         case rest =>
          clear HC32
          try clear c1
          try clear p1
          try clear q1
          try clear hx1
          try clear c2
          try clear p2
          try clear c3
          try clear c4
          try clear c6
          try clear p6
          try clear c9
          try clear p12
          try clear q12
          try clear hx12
          try clear c15
          try clear c15b0
          try clear c15b1
          try clear c15b2
          try clear c17
          try clear c18
          try clear c19
          try clear c21
          try clear c21b0
          try clear c21b2
          try clear c23
          try clear c23b0
          try clear c23b1
          try clear c29
          try clear c29b0
          try clear c30
          try clear c30b0
          try clear c35
          try clear c35b0
          try clear c35b1
          try clear c35b2
          try clear hcz13_0
          try clear hcz13_1
          try clear hcz13_2
          try clear hcz24_0
          try clear hcz24_1
          try clear hcz24_2
          try clear hcz26_0
          try clear hcz26_1
          try clear hcz26_2
          try clear hcz27_0
          try clear hcz27_1
          try clear hcz27_2
          try clear hfz13_0
          try clear hfz13_1
          try clear hfz13_2
          try clear hfz24_0
          try clear hfz24_1
          try clear hfz24_2
          try clear hfz26_0
          try clear hfz26_1
          try clear hfz26_2
          try clear hfz27_0
          try clear hfz27_1
          try clear hfz27_2
          try clear hx120_0
          try clear hx120_1
          try clear hx120_2
          try clear hx120_3
          try clear hx120_4
          try clear hx126_0
          try clear hx126_1
          try clear hx126_2
          try clear hx126_3
          try clear hx126_4
          try clear hx127_0
          try clear hx127_1
          try clear hx127_2
          try clear hx127_3
          try clear hx127_4
          try clear p120
          try clear p126
          try clear p127
          try clear p2
          try clear p6
          try clear q120
          try clear q126
          try clear q127
          obtain ⟨kq, x9_31, rfl, HA, HJ31, HO_3, HO_4, HO_114002, BK113, HB⟩ := hcut
          cases kq with
          | zero => exact absurd HA.out (by simp [laws_FnOwned.j4])
          | succ kj31 =>
           have H := HA.out
           clear HA
           simp only [laws_FnOwned.j4] at H
           by_cases c37 : ((t121 == 0) == x9_31) = true
           ·
            rw [if_pos c37] at H
            have c37b0 : ((t121 == 0) == x9_31) = true := c37
            (try (have c37b1 : decide ((t121 == 0) = x9_31) = true := by simpa using c37))
            (try (have c37b2 : ((t121 == 0) == x9_31) = true := by simpa using c37))
            clear c37
            obtain rfl := Option.some.inj H
            go_wp2
            go_ret
            exact ⟨by first | rfl | (simp [errW_none, errW_some] <;> rfl) | (simp [*, errW_none, errW_some] <;> rfl), by repeat (first | (with_reducible first | exact HB.out | apply below_alloc | apply pw_below_drewN | apply below_drew1 | refine below_set ?_ GE113.out) | exact HB.out)⟩
           ·
            rw [if_neg c37] at H
            have c37b0 : ((t121 == 0) == x9_31) = false := by simpa using c37
            (try (have c37b1 : decide ((t121 == 0) = x9_31) = false := by simpa using c37))
            (try (have c37b2 : ((t121 == 0) == x9_31) = false := by simpa using c37))
            (try (have c37b3 : ¬ ((t121 == 0) = x9_31) := by simpa using c37))
            clear c37
            by_cases c38 : x9_31 = true
            ·
             subst c38
             replace H : (laws_FnOwned.l0 kj31 t102 t103 (wrap64 (x6_3 + 1)) (wrap64 (x7_3 + 1)) t108 t109 t110) = some r := by rw [if_pos rfl] at H; exact H
             have H' := aa H
             clear H
             go_wp2
             go_roundg kj31
             case measure => have := HJ2.out; have := HJ6.out; have := HK3.out; have := HJ19.out; have := HJ31.out; omega
             case rel => exact ⟨(wrap64 (x6_3 + 1)), (wrap64 (x7_3 + 1)), zagbkp, zagbkp, H', ⟨by have := HJ2.out; have := HJ6.out; have := HK3.out; have := HJ19.out; have := HJ31.out; omega⟩, ⟨by (with_reducible repeat (first | apply Kd.R_alloc | apply Kd.R_drewN | apply Kd.R_drew)); exact HO_3.out⟩, ⟨by (with_reducible repeat (first | apply Kd.R_alloc | apply Kd.R_drewN | apply Kd.R_drew)); exact HO_4.out⟩, ⟨by (with_reducible repeat (first | apply Kd.R_alloc | apply Kd.R_drewN | apply Kd.R_drew)); exact HO_114002.out⟩, ⟨by (with_reducible repeat (first | refine blk_drewN ?_ _ | refine blk_drew ?_ | refine blk_alloc ?_ _)); exact BK113.out⟩, ⟨by repeat (first | (with_reducible first | exact HB.out | apply below_alloc | apply pw_below_drewN | apply below_drew1 | refine below_set ?_ GE113.out) | exact HB.out)⟩⟩
            replace c38 := Bool.eq_false_iff.mpr c38
            subst c38
            replace H : (laws_FnOwned.l0 kj31 t102 t103 x6_3 (wrap64 (x7_3 + 1)) t108 t109 t110) = some r := by rw [if_neg (show ¬ (false = true) by decide)] at H; exact H
            have H' := aa H
            clear H
            go_wp2
            go_roundg kj31
            case measure => have := HJ2.out; have := HJ6.out; have := HK3.out; have := HJ19.out; have := HJ31.out; omega
            case rel => exact ⟨(x6_3), (wrap64 (x7_3 + 1)), zagbkp, zagbkp, H', ⟨by have := HJ2.out; have := HJ6.out; have := HK3.out; have := HJ19.out; have := HJ31.out; omega⟩, ⟨by (with_reducible repeat (first | apply Kd.R_alloc | apply Kd.R_drewN | apply Kd.R_drew)); exact HO_3.out⟩, ⟨by (with_reducible repeat (first | apply Kd.R_alloc | apply Kd.R_drewN | apply Kd.R_drew)); exact HO_4.out⟩, ⟨by (with_reducible repeat (first | apply Kd.R_alloc | apply Kd.R_drewN | apply Kd.R_drew)); exact HO_114002.out⟩, ⟨by (with_reducible repeat (first | refine blk_drewN ?_ _ | refine blk_drew ?_ | refine blk_alloc ?_ _)); exact BK113.out⟩, ⟨by repeat (first | (with_reducible first | exact HB.out | apply below_alloc | apply pw_below_drewN | apply below_drew1 | refine below_set ?_ GE113.out) | exact HB.out)⟩⟩
end Go.Proofs.YtajlnffefoeppaaDoor.Qa
/- Arguments laid open: what a value of a type holds in memory, by the print's kinds; for every type that is met here. -/
namespace Go.Proofs.YtajlnffefoeppaaDoor.Tro
open Go.ChangeShapes Go.WideShapes Go.RowKit Go.Deep Go.Proofs.YtajlnffefoeppaaDoorW.PrintWords

/-- What can be read as data of type T holds a value of this kind, of which 'good' is so. -/
def Tr {α : Type} (P : Program) (k : Kd α) (T : TypeId) (good : α → Prop) : Prop :=
  ∀ {H : Type} (enc : TypeId × Value → H) (w : World) (fuel : Nat) (cs : List Value) (x : DataW H × List MemPlace), DataW.trod enc P w 0 (fun _ => true) true fuel T cs = some x → ∃ a : α, k.K w a cs ∧ good a
theorem tr_int {P : Program} {T : TypeId} {k : IntKind} (h : P.underlying T = some (.int k)) : Tr P (Kd.int k) T (fun a => (Lit.int k a).wf = true) := by
  intro H enc w fuel cs x hx
  obtain ⟨n, rfl, _, hw⟩ := DataW.trod_int h hx
  exact ⟨n, rfl, hw⟩
theorem tr_bool {P : Program} {T : TypeId} (h : P.underlying T = some .bool) : Tr P Kd.bool T (fun _ => True) := by
  intro H enc w fuel cs x hx
  obtain ⟨b, rfl, _⟩ := DataW.trod_bool h hx
  exact ⟨b, rfl, trivial⟩
theorem tr_string {P : Program} {T : TypeId} (h : P.underlying T = some .string) : Tr P Kd.string T (fun s => s.size ≤ 9223372036854775807) := by
  intro H enc w fuel cs x hx
  obtain ⟨s, rfl, _, hs⟩ := DataW.trod_string h hx
  exact ⟨s, rfl, hs⟩
theorem choose_list {α : Type} {p : Nat → α → Prop} : ∀ n : Nat, (∀ i, i < n → ∃ a, p i a) → ∃ xs : List α, xs.length = n ∧ ∀ i a, xs[i]? = some a → p i a
  | 0, _ => ⟨[], rfl, fun i a h => by simp at h⟩
  | n + 1, h => by
    obtain ⟨xs, hl, hx⟩ := choose_list n (fun i hi => h i (by omega))
    obtain ⟨a, ha⟩ := h n (by omega)
    refine ⟨xs ++ [a], by simp [hl], fun i b hb => ?_⟩
    rcases Nat.lt_or_ge i xs.length with hi | hi
    · rw [List.getElem?_append_left hi] at hb
      exact hx i b hb
    · rw [List.getElem?_append_right hi] at hb
      have hi' : i = xs.length := by
        rcases Nat.eq_or_lt_of_le hi with e | e
        · exact e.symm
        · rw [List.getElem?_eq_none (by simp; omega)] at hb
          cases hb
      subst hi'
      rw [Nat.sub_self] at hb
      cases hb
      rw [hl]
      exact ha
theorem tr_slice {α : Type} {P : Program} {T e : TypeId} {d : Kd α} {good : α → Prop} (h : P.underlying T = some (.slice e)) (hz : d.sz = P.cellsOf e) (he : Tr P d e good) :
    Tr P (Kd.slice e d) T (fun xs => xs.length ≤ 9223372036854775807 ∧ ∀ x ∈ xs, good x) := by
  intro H enc w fuel cs x hx
  rcases open_slice h hx with ⟨rfl, _⟩ | ⟨a, len, cap, m, n, D, Pl, rfl, _, hl, hm, hmm, _, hi⟩
  · exact ⟨[], ⟨none, 0, rfl, Nat.le_refl _, rfl, Nat.zero_le _, fun h0 => absurd h0 (Nat.lt_irrefl 0)⟩, Nat.zero_le _, fun x hx => by simp at hx⟩
  · have hmc : m = cap := by simpa using hmm
    have hcap : cap ≤ 9223372036854775807 := hm
    obtain ⟨xs, hxl, hxs⟩ := choose_list (p := fun i b => (∃ c, c.length = d.sz ∧ d.K w b c ∧ ∀ j u, c[j]? = some u → w.cell? (a.add (i * d.sz + j)) = some u) ∧ good b) len (fun i hil => by
      obtain ⟨cs', hc, ht⟩ := hi i (by omega)
      obtain ⟨b, hb, hg⟩ := he enc w n cs' _ ht
      refine ⟨b, ⟨cs', d.K_len hb, hb, fun j u hu => ?_⟩, hg⟩
      obtain ⟨_, hcl, hat⟩ := World.cells?_some hc
      have hj : j < P.cellsOf e := by rw [← hcl]; exact (List.getElem?_eq_some_iff.1 hu).1
      have := hat j hj
      rw [hz, ← Go.Deep.add_add, this, hu])
    refine ⟨xs, ⟨some a, cap, by rw [hxl], by omega, rfl, by omega, fun _ => ⟨a, rfl, fun j p hp => (hxs j p hp).1⟩⟩, by omega, fun b hb => ?_⟩
    obtain ⟨i, hil, he⟩ := List.getElem_of_mem hb
    exact (hxs i b (by rw [← he]; exact List.getElem?_eq_getElem hil)).2
end Go.Proofs.YtajlnffefoeppaaDoor.Tro

namespace Go.Proofs.YtajlnffefoeppaaDoor.Qa
open Go.RowKit Go.Proofs.YtajlnffefoeppaaDoorW.PrintWords Go.Proofs.YtajlnffefoeppaaDoorW.PrintLast Go.Proofs.YtajlnffefoeppaaDoorW.PrintMore Go.ChangeShapes Go.WideShapes Go.Proofs.YtajlnffefoeppaaDoor.Tro
attribute [local go_sem] max2_int min2_int max_two min_two max_three min_three max_four min_four   -- for this text's walks alone
set_option linter.unusedVariables false
set_option linter.unusedSimpArgs false
end Go.Proofs.YtajlnffefoeppaaDoor.Qa
/- Small laws of the pure side: what ends, step by step; whole numbers; lists by places. -/
namespace Go.Proofs.YtajlnffefoeppaaDoor.Aid
open Go.RowKit Go.Proofs.YtajlnffefoeppaaDoorW.PrintWords

theorem wrap_id {x : Int} (h0 : -9223372036854775808 ≤ x) (h1 : x ≤ 9223372036854775807) : wrap64 x = x := by
  unfold wrap64
  omega
theorem wrap_up {i n : Nat} (h : i < n) (hn : n ≤ 4611686018427387904) : wrap64 ((i : Int) + 1) = ((i + 1 : Nat) : Int) := by
  rw [wrap_id (by omega) (by omega)]
  omega
theorem wf_lo {x : Int} (h : (Lit.int .i64 x).wf = true) : -9223372036854775808 ≤ x ∧ x ≤ 9223372036854775807 := by
  have h' : (decide (IntKind.i64.min ≤ x) && decide (x ≤ IntKind.i64.max)) = true := h
  simp only [Bool.and_eq_true, decide_eq_true_eq] at h'
  exact h'
/-- One round, then what is known of the rest. -/
theorem ev_step {α : Type} {g : Nat → Option α} (f : Nat → Option α) {r : α} (h : ∀ k, g (k + 1) = f k) (k : Ev f r) : Ev g r := Ev.step h k
theorem ev_done {α : Type} {g : Nat → Option α} {r : α} (h : ∀ k, g (k + 1) = some r) : Ev g r := Ev.step h (Ev.now r)
theorem ev_is {α : Type} {g : Nat → Option α} {r : α} (h : ∀ k, g k = some r) : Ev g r := ⟨0, fun k _ => h k⟩
/-- A call whose answer is known, then the rest. -/
theorem ev_call {α β : Type} {g : Nat → Option α} {f : Nat → α → Option β} {a : α} {r : β} (h : Ev g a) (k : Ev (fun n => f n a) r) : Ev (fun n => (g n).bind (f n)) r := Ev.bind h k
theorem ev_cong {α : Type} {g f : Nat → Option α} {r : α} (h : ∀ k, g k = f k) (k : Ev f r) : Ev g r := Ev.congr h k
theorem rd_at {l : List Int} {i : Nat} (h : i < l.length) : rd l (i : Int) = l[i] := by
  unfold rd
  rw [Int.toNat_natCast, List.getD_eq_getElem?_getD, List.getElem?_eq_getElem h]
  rfl
theorem drop_at {α : Type} {l : List α} {i : Nat} (h : i < l.length) : l.drop i = l[i] :: l.drop (i + 1) := List.drop_eq_getElem_cons h
theorem drop_end {α : Type} {l : List α} {i : Nat} (h : l.length ≤ i) : l.drop i = [] := List.drop_eq_nil_of_le h
theorem rd_set_at {l : List Int} {i : Nat} {v : Int} (h : i < l.length) : rd (l.set i v) (i : Int) = v := by
  rw [rd_at (by simpa using h)]
  simp
theorem rdOf_at {α : Type} {z : α} {l : List α} {i : Nat} (h : i < l.length) : rdOf z l (i : Int) = l[i] := by
  unfold rdOf
  rw [Int.toNat_natCast, List.getD_eq_getElem?_getD, List.getElem?_eq_getElem h]
  rfl
theorem rdOf_set_at {α : Type} {z : α} {l : List α} {i : Nat} {v : α} (h : i < l.length) : rdOf z (l.set i v) (i : Int) = v := by
  rw [rdOf_at (by simpa using h)]
  simp
theorem take_set_snoc {α : Type} {l : List α} {i : Nat} {v : α} (h : i < l.length) : (l.set i v).take (i + 1) = l.take i ++ [v] := by
  rw [List.take_succ_eq_append_getElem (by simpa using h), List.take_set_of_le (Nat.le_refl i)]
  simp
theorem take_set_next {α : Type} {m L : List α} {i : Nat} {v : α} (h : i < m.length) (h' : i < L.length) (ht : m.take i = L.take i) (hv : L[i] = v) : (m.set i v).take (i + 1) = L.take (i + 1) := by
  rw [take_set_snoc h, List.take_succ_eq_append_getElem h', ht, hv]
theorem wr1_ (m : Int) (h0 : -9223372036854775808 ≤ m + 1) (h1 : m + 1 ≤ 9223372036854775807) : wrap64 (m + 1) = m + 1 := wrap_id h0 h1
theorem wrn_ (m j j1 : Int) (e : j + 1 = j1) (h0 : -9223372036854775808 ≤ m + j + 1) (h1 : m + j + 1 ≤ 9223372036854775807) : wrap64 (m + j + 1) = m + j1 := by
  rw [wrap_id h0 h1]
  omega
theorem size_strOfNums (xs : List Int) : (strOfNums xs).size = xs.length := by
  simp [strOfNums, ByteArray.size]
theorem tdiv_lt {x : Int} (h : 0 < x) : 0 ≤ Int.tdiv x 10 ∧ Int.tdiv x 10 + 1 ≤ x := by
  have : Int.tdiv x 10 = x / 10 := Int.tdiv_eq_ediv_of_nonneg (by omega)
  rw [this]
  omega
/-- Where what is so stands ahead of what is not: how many are so is the place. -/
theorem take_pos {α : Type} (p : α → Bool) (l : List α) (hm : l.Pairwise (fun x y => p y = true → p x = true)) : ∀ j (hj : j < l.length), p l[j] = true ↔ j < (l.takeWhile p).length := by
  induction l with
  | nil => intro j hj; simp at hj
  | cons x l ih =>
    intro j hj
    obtain ⟨h1, h2⟩ := List.pairwise_cons.1 hm
    cases hx : p x with
    | true =>
      rw [List.takeWhile_cons_of_pos hx]
      cases j with
      | zero => simp [hx]
      | succ j => simpa using ih h2 j (by simpa using hj)
    | false =>
      rw [List.takeWhile_cons_of_neg (by simp [hx])]
      cases j with
      | zero => simp [hx]
      | succ j =>
        have hj' : j < l.length := by simpa using hj
        have : p l[j] = true → False := fun h => by
          have := h1 l[j] (List.getElem_mem hj') h
          rw [hx] at this
          cases this
        simp
        exact Bool.eq_false_iff.2 this
theorem take_pos_le {α : Type} (p : α → Bool) (l : List α) : (l.takeWhile p).length ≤ l.length := (List.takeWhile_prefix p).length_le
theorem mid_eq {a b : Nat} (h : a + b ≤ 4611686018427387904) : wrap64 ((IntKind.u64.wrap (wrap64 ((a : Int) + (b : Int)))) / 2) = ((((a + b) / 2 : Nat)) : Int) := by
  have e : wrap64 ((a : Int) + (b : Int)) = ((a + b : Nat) : Int) := by rw [wrap_id (by omega) (by omega)]; omega
  have e2 : IntKind.u64.wrap (((a + b : Nat)) : Int) = ((a + b : Nat) : Int) := by
    have : IntKind.u64.wrap (((a + b : Nat)) : Int) = (((a + b : Nat)) : Int) % 18446744073709551616 := rfl
    rw [this]
    omega
  rw [e, e2, wrap_id (by omega) (by omega)]
  omega
end Go.Proofs.YtajlnffefoeppaaDoor.Aid

namespace Go.Proofs.YtajlnffefoeppaaDoor.Qa
open Go.RowKit Go.Proofs.YtajlnffefoeppaaDoorW.PrintWords Go.Proofs.YtajlnffefoeppaaDoorW.PrintLast Go.Proofs.YtajlnffefoeppaaDoor.Aid
set_option linter.unusedVariables false
set_option linter.unusedSimpArgs false
theorem rd_T44_at {l : List (S44)} {i : Nat} (h : i < l.length) : rd_T44 l (i : Int) = l[i] := by
  unfold rd_T44
  rw [Int.toNat_natCast, List.getD_eq_getElem?_getD, List.getElem?_eq_getElem h]
  rfl
theorem rd_T44_set {l : List (S44)} {i : Nat} {v : S44} (h : i < l.length) : rd_T44 (l.set i v) (i : Int) = v := by
  rw [rd_T44_at (by simpa using h)]
  simp
end Go.Proofs.YtajlnffefoeppaaDoor.Qa
/- A number within bounds, by the program and by the reference. -/
namespace Go.Proofs.YtajlnffefoeppaaDoor.Pure
open Go.RowKit Go.Proofs.YtajlnffefoeppaaDoor.Qa Go.Proofs.YtajlnffefoeppaaDoorW.PrintWords Go.Proofs.YtajlnffefoeppaaDoorW.PrintLast Go.Proofs.YtajlnffefoeppaaDoor.Aid
theorem spec_l1In_is (a lo hi : Int) : spec_l1In.f a lo hi = some (decide (lo ≤ a ∧ a ≤ hi)) := by
  unfold spec_l1In.f
  by_cases h : lo ≤ a
  · rw [if_pos h]; simp [h]
  · rw [if_neg h]; simp [h]
theorem impl_within_is (a lo hi : Int) : impl_within.f a lo hi = some (decide (lo ≤ a ∧ a ≤ hi)) := by
  unfold impl_within.f
  by_cases h : lo ≤ a
  · rw [if_pos h]; simp [h]
  · rw [if_neg h]; simp [h]
end Go.Proofs.YtajlnffefoeppaaDoor.Pure

/- Names: what is one, by the program and by the reference: the same, for every text. -/
namespace Go.Proofs.YtajlnffefoeppaaDoor.Pure
open Go.RowKit Go.Proofs.YtajlnffefoeppaaDoor.Qa Go.Proofs.YtajlnffefoeppaaDoorW.PrintWords Go.Proofs.YtajlnffefoeppaaDoorW.PrintLast Go.Proofs.YtajlnffefoeppaaDoor.Aid

theorem bt_at {s : ByteArray} {i : Nat} (h : i < s.data.toList.length) : bt s (i : Int) = ((s.data.toList[i]).toNat : Int) := by
  have h' : (i : Int).toNat < s.size := by rw [Int.toNat_natCast]; exact h
  unfold bt
  rw [dif_pos h']
  rfl
theorem size_list (s : ByteArray) : s.size = s.data.toList.length := rfl
/-- A sign of a name. -/
def okU (c : UInt8) : Bool := (decide (97 ≤ c.toNat) && decide (c.toNat ≤ 122)) || (decide (48 ≤ c.toNat) && decide (c.toNat ≤ 57))
def nameB (s : ByteArray) : Bool := s.data.toList.all okU && decide (1 ≤ (s.size : Int) ∧ (s.size : Int) ≤ 8)
theorem okU_true {c : UInt8} (h : okU c = true) : (97 ≤ (c.toNat : Int) ∧ (c.toNat : Int) ≤ 122) ∨ (48 ≤ (c.toNat : Int) ∧ (c.toNat : Int) ≤ 57) := by
  unfold okU at h
  simp only [Bool.or_eq_true, Bool.and_eq_true, decide_eq_true_eq] at h
  omega
theorem okU_false {c : UInt8} (h : okU c = false) : ¬ ((97 ≤ (c.toNat : Int) ∧ (c.toNat : Int) ≤ 122) ∨ (48 ≤ (c.toNat : Int) ∧ (c.toNat : Int) ≤ 57)) := by
  intro g
  have : okU c = true := by
    unfold okU
    simp only [Bool.or_eq_true, Bool.and_eq_true, decide_eq_true_eq]
    omega
  rw [h] at this
  cases this
theorem name_spec_l0 (s : ByteArray) (hl : s.size ≤ 4611686018427387904) (d : Nat) : ∀ (i : Nat), i + d = s.size → Ev (fun k => spec_l1Name.l0 k s (i : Int)) ((s.data.toList.drop i).all okU && decide (1 ≤ (s.size : Int) ∧ (s.size : Int) ≤ 8)) := by
  have hs := size_list s
  induction d with
  | zero =>
    intro i h
    rw [drop_end (by omega)]
    exact ev_done fun k => by simp only [spec_l1Name.l0]; rw [if_neg (by omega), spec_l1In_is]; rfl
  | succ d ih =>
    intro i h
    have hi : i < s.data.toList.length := by omega
    rw [drop_at hi, List.all_cons]
    cases c : okU s.data.toList[i] with
    | true =>
      have hc := okU_true c
      rw [Bool.true_and]
      refine ev_step (fun k => spec_l1Name.l0 k s ((i + 1 : Nat) : Int)) (fun k => ?_) (ih (i + 1) (by omega))
      simp only [spec_l1Name.l0]; rw [if_pos (by omega), if_pos (by omega), bt_at hi, wrap_up hi (by omega)]
      by_cases h1 : ((s.data.toList[i]).toNat : Int) < 97
      · rw [if_pos h1, if_neg (by omega), if_neg (by omega)]
      · rw [if_neg h1, if_neg (by omega)]
    | false =>
      have hc := okU_false c
      rw [Bool.false_and, Bool.false_and]
      refine ev_done fun k => ?_
      simp only [spec_l1Name.l0]; rw [if_pos (by omega), if_pos (by omega), bt_at hi]
      by_cases h1 : ((s.data.toList[i]).toNat : Int) < 97
      · rw [if_pos h1]
        by_cases h2 : ((s.data.toList[i]).toNat : Int) < 48
        · rw [if_pos h2]
        · rw [if_neg h2, if_pos (by omega)]
      · rw [if_neg h1, if_pos (by omega), if_neg (by omega), if_pos (by omega)]
theorem name_spec (s : ByteArray) (hl : s.size ≤ 4611686018427387904) : Ev (fun k => spec_l1Name.f k s) (nameB s) := by
  have h := name_spec_l0 s hl s.size 0 (by omega)
  rw [List.drop_zero] at h
  exact h
theorem name_impl_l0 (s : ByteArray) (hl : s.size ≤ 4611686018427387904) (d : Nat) : ∀ (i : Nat), i + d = s.size → Ev (fun k => impl_isName.l0 k s (s.size : Int) (i : Int)) ((s.data.toList.drop i).all okU && decide (1 ≤ (s.size : Int) ∧ (s.size : Int) ≤ 8)) := by
  have hs := size_list s
  induction d with
  | zero =>
    intro i h
    rw [drop_end (by omega)]
    exact ev_done fun k => by simp only [impl_isName.l0]; rw [if_neg (by omega), impl_within_is]; rfl
  | succ d ih =>
    intro i h
    have hi : i < s.data.toList.length := by omega
    rw [drop_at hi, List.all_cons]
    cases c : okU s.data.toList[i] with
    | true =>
      have hc := okU_true c
      rw [Bool.true_and]
      refine ev_step (fun k => impl_isName.l0 k s (s.size : Int) ((i + 1 : Nat) : Int)) (fun k => ?_) (ih (i + 1) (by omega))
      simp only [impl_isName.l0]; rw [if_pos (by omega), if_pos (by omega), if_pos (by omega), bt_at hi, wrap_up hi (by omega)]
      by_cases h1 : ((s.data.toList[i]).toNat : Int) < 97
      · rw [if_pos h1, if_neg (by omega), if_neg (by omega)]
      · rw [if_neg h1, if_neg (by omega)]
    | false =>
      have hc := okU_false c
      rw [Bool.false_and, Bool.false_and]
      refine ev_done fun k => ?_
      simp only [impl_isName.l0]; rw [if_pos (by omega), if_pos (by omega), if_pos (by omega), bt_at hi]
      by_cases h1 : ((s.data.toList[i]).toNat : Int) < 97
      · rw [if_pos h1]
        by_cases h2 : ((s.data.toList[i]).toNat : Int) < 48
        · rw [if_pos h2]
        · rw [if_neg h2, if_pos (by omega)]
      · rw [if_neg h1, if_pos (by omega), if_neg (by omega), if_pos (by omega)]
theorem name_impl (s : ByteArray) (hl : s.size ≤ 4611686018427387904) : Ev (fun k => impl_isName.f k s) (nameB s) := by
  have h := name_impl_l0 s hl s.size 0 (by omega)
  rw [List.drop_zero] at h
  exact h
end Go.Proofs.YtajlnffefoeppaaDoor.Pure

/- Paths: a text cut at the marks, by the program (strings.Split) and by the reference: the same; what is wrong with a path: the same, for every text. -/
namespace Go.Proofs.YtajlnffefoeppaaDoor.Pure
open Go.RowKit Go.Proofs.YtajlnffefoeppaaDoor.Qa Go.Proofs.YtajlnffefoeppaaDoorW.PrintWords Go.Proofs.YtajlnffefoeppaaDoorW.PrintLast Go.Proofs.YtajlnffefoeppaaDoor.Aid

def mkB (l : List UInt8) : ByteArray := ⟨⟨l⟩⟩
theorem eq_mk {t : ByteArray} {l : List UInt8} (h : t.data.toList = l) : t = mkB l := by subst h; rfl
theorem ext_list (s : ByteArray) (a b : Nat) : (s.extract a b).data.toList = (s.data.toList.drop a).take (b - a) := by
  rw [ByteArray.data_extract, Array.toList_extract]
theorem ext_mk (s : ByteArray) (a b : Nat) : s.extract a b = mkB ((s.data.toList.drop a).take (b - a)) := eq_mk (ext_list s a b)
theorem tl (s : ByteArray) : s.toList = s.data.toList := ByteArray.toList_eq s
/-- The pieces of a text between the marks; what stands ahead goes into the first one. -/
def splF : List UInt8 → List UInt8 → List (List UInt8)
  | P, [] => [P]
  | P, c :: l => if c = 47 then P :: splF [] l else splF (P ++ [c]) l
theorem splF_len (l : List UInt8) : ∀ P, (splF P l).length = l.count 47 + 1 := by
  induction l with
  | nil => intro P; rfl
  | cons c l ih =>
    intro P
    unfold splF
    by_cases h : c = 47
    · rw [if_pos h, List.length_cons, ih, h, List.count_cons_self]
    · rw [if_neg h, ih, List.count_cons_of_ne (by simpa using h)]
theorem splF_none (l : List UInt8) : ∀ P, l.count 47 = 0 → splF P l = [P ++ l] := by
  induction l with
  | nil => intro P _; simp [splF]
  | cons c l ih =>
    intro P h
    have hc : c ≠ 47 := fun e => by rw [e, List.count_cons_self] at h; omega
    rw [List.count_cons_of_ne (by simpa using hc)] at h
    unfold splF
    rw [if_neg hc, ih _ h, List.append_assoc]
    rfl
theorem splF_some (l : List UInt8) (h : 0 < l.count 47) : ∃ p, p < l.length ∧ Lib.indexByte l 47 = (p : Int) ∧ (∀ P, splF P l = (P ++ l.take p) :: splF [] (l.drop (p + 1))) ∧ (l.drop (p + 1)).count 47 + 1 = l.count 47 := by
  induction l with
  | nil => simp at h
  | cons c l ih =>
    by_cases hc : c = 47
    · subst hc
      refine ⟨0, by simp, by unfold Lib.indexByte; rfl, fun P => ?_, by simp⟩
      rw [show splF P (47 :: l) = P :: splF [] l from if_pos rfl]
      simp
    · rw [List.count_cons_of_ne (by simpa using hc)] at h ⊢
      obtain ⟨p, h1, h2, h3, h4⟩ := ih h
      refine ⟨p + 1, by simpa using h1, ?_, fun P => ?_, by simpa using h4⟩
      · unfold Lib.indexByte
        rw [if_neg (by simpa using hc), h2, if_neg (by simp)]
        omega
      · rw [show splF P (c :: l) = splF (P ++ [c]) l from if_neg hc, h3]
        simp
/-- The reference's cut. -/
theorem cut_l0 (s : ByteArray) (hs : s.size ≤ 4398046511104) (d : Nat) : ∀ (i f : Nat) (out : List ByteArray), i + d = s.size → f ≤ i → out.length ≤ i → Ev (fun k => spec_l1Cut.l0 k s 47 out (f : Int) (i : Int)) (out ++ (splF ((s.data.toList.drop f).take (i - f)) (s.data.toList.drop i)).map mkB) := by
  have hl := size_list s
  have fin : ∀ (n f : Nat) (out : List ByteArray), s.size < n → Ev (fun k => spec_l1Cut.l0 k s 47 out (f : Int) (n : Int)) out := fun n f out hn => ev_done fun k => by simp only [spec_l1Cut.l0]; rw [if_neg (by omega)]
  induction d with
  | zero =>
    intro i f out h hf ho
    have e : s.data.toList.drop i = [] := drop_end (by omega)
    rw [e]
    have hx := ext_mk s f i
    refine ev_step (fun k => spec_l1Cut.l0 k s 47 (out ++ [s.extract f i]) ((i + 1 : Nat) : Int) ((i + 1 : Nat) : Int)) (fun k => ?_) ?_
    · simp only [spec_l1Cut.l0]; rw [if_pos (by omega), if_pos (by omega), if_pos (by omega), if_pos (by omega), if_pos (by omega), wrap_id (by omega) (by omega)]; rfl
    · rw [hx]
      exact fin _ _ _ (by omega)
  | succ d ih =>
    intro i f out h hf ho
    have hi : i < s.data.toList.length := by omega
    rw [drop_at hi]
    by_cases c : s.data.toList[i] = 47
    · rw [splF, if_pos c]
      have IH := ih (i + 1) (i + 1) (out ++ [s.extract f i]) (by omega) (by omega) (by simp; omega)
      rw [Nat.sub_self, List.take_zero] at IH
      have e : out ++ (((s.data.toList.drop f).take (i - f)) :: splF [] (s.data.toList.drop (i + 1))).map mkB = (out ++ [s.extract f i]) ++ (splF [] (s.data.toList.drop (i + 1))).map mkB := by rw [ext_mk, List.map_cons, List.append_assoc]; rfl
      rw [e]
      refine ev_step (fun k => spec_l1Cut.l0 k s 47 (out ++ [s.extract f i]) ((i + 1 : Nat) : Int) ((i + 1 : Nat) : Int)) (fun k => ?_) IH
      simp only [spec_l1Cut.l0]; rw [if_pos (by omega), if_neg (by omega), if_pos (by omega), if_pos (by omega), bt_at hi, c, if_pos (show ((UInt8.toNat 47 : Nat) : Int) = 47 from rfl), if_pos (by omega), if_pos (by omega), if_pos (by omega), wrap_up hi (by omega)]; rfl
    · rw [splF, if_neg c]
      have e : (s.data.toList.drop f).take (i - f) ++ [s.data.toList[i]] = (s.data.toList.drop f).take (i + 1 - f) := by
        rw [show i + 1 - f = (i - f) + 1 by omega, List.take_succ_eq_append_getElem (by rw [List.length_drop]; omega)]
        congr 2
        rw [List.getElem_drop]
        congr 1
        omega
      rw [e]
      refine ev_step (fun k => spec_l1Cut.l0 k s 47 out (f : Int) ((i + 1 : Nat) : Int)) (fun k => ?_) (ih (i + 1) f out (by omega) (by omega) (by omega))
      have hne : ¬ (((s.data.toList[i]).toNat : Int) = 47) := fun e => c (by
        have e2 : (s.data.toList[i]).toNat = 47 := by omega
        exact UInt8.toNat_inj.1 e2)
      simp only [spec_l1Cut.l0]; rw [if_pos (by omega), if_neg (by omega), if_pos (by omega), if_pos (by omega), bt_at hi, if_neg hne, wrap_up hi (by omega)]
def pieces (s : ByteArray) : List ByteArray := (splF [] s.data.toList).map mkB
theorem pieces_len (s : ByteArray) : (pieces s).length = s.data.toList.count 47 + 1 := by unfold pieces; rw [List.length_map, splF_len]
theorem cut_spec (s : ByteArray) (hs : s.size ≤ 4398046511104) : Ev (fun k => spec_l1Cut.f k s 47) (pieces s) := by
  have h := cut_l0 s hs s.size 0 0 [] (by omega) (by omega) (by simp)
  rw [List.nil_append, Nat.sub_self, List.take_zero, List.drop_zero] at h
  exact h
theorem w_up (p : Nat) (h : p ≤ 4611686018427387904) : wrap64 ((p : Int) + 1) = ((p + 1 : Nat) : Int) := by rw [wrap_id (by omega) (by omega)]; omega
theorem w_one (p : Nat) (h : p ≤ 4611686018427387904) : wrap64 ((p : Int) + ((⟨#[47]⟩ : ByteArray).size : Int)) = ((p + 1 : Nat) : Int) := w_up p h
theorem w_zero (p : Nat) (h : p ≤ 4611686018427387904) : wrap64 ((p : Int) + 0) = (p : Int) := by rw [Int.add_zero]; exact wrap_id (by omega) (by omega)
/-- The program's cut. -/
theorem split_l0 (n : Nat) (hn : n ≤ 4398046511104) (d : Nat) : ∀ (i : Nat) (x : ByteArray) (a : List ByteArray), x.data.toList.count 47 = d → i + d = n → a.length = n + 1 → x.size ≤ 4398046511104 → Ev (fun k => strings_genSplit.l0 k x (⟨#[47]⟩ : ByteArray) 0 (n : Int) a (i : Int)) (a.take i ++ (splF [] x.data.toList).map mkB) := by
  have ix : ∀ x : ByteArray, strings_Index.f x (⟨#[47]⟩ : ByteArray) = some (Lib.indexByte x.data.toList 47) := fun x => if_pos rfl
  induction d with
  | zero =>
    intro i x a hc h ha hx
    have e : a.take i ++ (splF [] x.data.toList).map mkB = (a.set i x).take (i + 1) := by
      rw [splF_none _ _ hc, take_set_snoc (by omega)]
      rfl
    rw [e]
    refine ev_done fun k => ?_
    have q0 : ¬ ((i : Int) < (n : Int)) := by omega
    have q1 : (0 : Int) ≤ (i : Int) := by omega
    have q2 : (i : Int) < (a.length : Int) := by omega
    have q3 : (0 : Int) ≤ ((i + 1 : Nat) : Int) := by omega
    have q4 : ((i + 1 : Nat) : Int) ≤ (a.length : Int) := by omega
    have wi := w_up i (by omega)
    simp only [strings_genSplit.l0, wi, q0, q1, q2, q3, q4, if_true, if_false, Int.toNat_natCast]
  | succ d ih =>
    intro i x a hc h ha hx
    obtain ⟨p, h1, h2, h3, h4⟩ := splF_some x.data.toList (by omega)
    have hl := size_list x
    have e1 : x.extract 0 p = mkB (x.data.toList.take p) := by rw [ext_mk]; rfl
    have e2 : (x.extract (p + 1) x.size).data.toList = x.data.toList.drop (p + 1) := by rw [ext_list, List.take_of_length_le (by rw [List.length_drop]; omega)]
    have IH := ih (i + 1) (x.extract (p + 1) x.size) (a.set i (x.extract 0 p)) (by rw [e2]; omega) (by omega) (by rw [List.length_set]; exact ha) (by rw [size_list, e2, List.length_drop]; omega)
    have e : a.take i ++ (splF [] x.data.toList).map mkB = (a.set i (x.extract 0 p)).take (i + 1) ++ (splF [] (x.extract (p + 1) x.size).data.toList).map mkB := by
      rw [e2, h3, take_set_snoc (by omega), List.append_assoc, e1]
      rfl
    rw [e]
    refine ev_step (fun k => strings_genSplit.l0 k (x.extract (p + 1) x.size) (⟨#[47]⟩ : ByteArray) 0 (n : Int) (a.set i (x.extract 0 p)) ((i + 1 : Nat) : Int)) (fun k => ?_) IH
    have q0 : (i : Int) < (n : Int) := by omega
    have q1 : (0 : Int) ≤ (i : Int) := by omega
    have q2 : (i : Int) < (a.length : Int) := by omega
    have q3 : (0 : Int) ≤ ((p + 1 : Nat) : Int) := by omega
    have q4 : ((p + 1 : Nat) : Int) ≤ (x.size : Int) := by omega
    have q5 : (0 : Int) ≤ (p : Int) := by omega
    have q6 : (p : Int) ≤ (x.size : Int) := by omega
    have q7 : ¬ ((p : Int) < 0) := by omega
    have hp_ : p ≤ 4611686018427387904 := by omega
    have hi_ : i ≤ 4611686018427387904 := by omega
    have wi := w_up i hi_
    have w1 := w_one p hp_
    have w0 := w_zero p hp_
    simp only [strings_genSplit.l0]
    rw [if_pos q0, ix, Option.bind_some, h2, if_neg q7, w0, if_pos q5, if_pos q6, if_pos q1, if_pos q2, w1, if_pos q3, if_pos q4, wi, Int.toNat_natCast, Int.toNat_natCast, Int.toNat_natCast]
theorem split_impl (s : ByteArray) (hs : s.size ≤ 1099511627776) : Ev (fun k => strings_Split.f k s (⟨#[47]⟩ : ByteArray)) (pieces s) := by
  have hl := size_list s
  have hle : s.data.toList.count 47 ≤ s.size := by rw [hl]; exact List.count_le_length
  have h := split_l0 (s.data.toList.count 47) (by omega) (s.data.toList.count 47) 0 s (List.replicate (s.data.toList.count 47 + 1) (⟨#[]⟩ : ByteArray)) rfl (by omega) (by simp) (by omega)
  have ct : strings_Count.f s (⟨#[47]⟩ : ByteArray) = some ((s.data.toList.count 47 : Nat) : Int) := if_pos rfl
  have en : wrap64 (((s.data.toList.count 47 : Nat) : Int) + 1) = ((s.data.toList.count 47 + 1 : Nat) : Int) := by rw [wrap_id (by omega) (by omega)]; omega
  have hm : mn ((s.data.toList.count 47 + 1 : Nat) : Int) (wrap64 ((s.size : Int) + 1)) = ((s.data.toList.count 47 + 1 : Nat) : Int) := by
    rw [wrap_id (by omega) (by omega)]
    unfold mn
    by_cases h : (s.size : Int) + 1 < ((s.data.toList.count 47 + 1 : Nat) : Int)
    · omega
    · rw [if_neg h]
  have hm1 : wrap64 (((s.data.toList.count 47 + 1 : Nat) : Int) - 1) = ((s.data.toList.count 47 : Nat) : Int) := by rw [wrap_id (by omega) (by omega)]; omega
  rw [List.take_zero, List.nil_append] at h
  unfold strings_Split.f
  refine ev_call (a := pieces s) ?_ (Ev.now _)
  unfold strings_genSplit.f
  refine ev_cong (fun k => (if_neg (by omega)).trans ((if_neg (by rw [tl]; simp)).trans (if_pos (by omega)))) ?_
  simp only [ct, Option.bind_some, en]
  refine ev_step _ (fun k => ?_) h
  simp only [strings_genSplit.j0]; rw [hm, if_pos (by omega), if_pos (by omega), hm1, Int.toNat_natCast]; rfl
end Go.Proofs.YtajlnffefoeppaaDoor.Pure

/- What is wrong with a path: by the program and by the reference the same, for every text. -/
namespace Go.Proofs.YtajlnffefoeppaaDoor.Pure
open Go.RowKit Go.Proofs.YtajlnffefoeppaaDoor.Qa Go.Proofs.YtajlnffefoeppaaDoorW.PrintWords Go.Proofs.YtajlnffefoeppaaDoorW.PrintLast Go.Proofs.YtajlnffefoeppaaDoor.Aid

theorem splF_size (l : List UInt8) : ∀ P, ∀ x ∈ splF P l, x.length ≤ P.length + l.length := by
  induction l with
  | nil => intro P x hx; rw [splF, List.mem_singleton] at hx; subst hx; omega
  | cons c l ih =>
    intro P x hx
    unfold splF at hx
    by_cases h : c = 47
    · rw [if_pos h] at hx
      rcases List.mem_cons.1 hx with rfl | hx
      · omega
      · have := ih [] x hx; simp at this ⊢; omega
    · rw [if_neg h] at hx
      have := ih _ x hx
      simp at this ⊢
      omega
theorem pieces_size (s : ByteArray) : ∀ x ∈ pieces s, x.size ≤ s.size := by
  intro x hx
  obtain ⟨l, hl, rfl⟩ := List.mem_map.1 hx
  have := splF_size s.data.toList [] l hl
  have e : (mkB l).size = l.length := rfl
  rw [List.length_nil] at this
  rw [e, size_list s]
  omega
def headR (s : ByteArray) : ByteArray := rdOf ByteArray.empty (pieces s) 0
def namesR (s : ByteArray) : List ByteArray × Bool :=
  if s.data.toList = [47] then ([], true) else if (pieces s).length < 2 then ([], false) else if (headR s).data.toList = [] then (if ((pieces s).drop 1).all nameB = true then ((pieces s).drop 1, true) else ([], false)) else ([], false)
def faultR (s : ByteArray) : Int :=
  if 24 < s.size then 2 else if s.data.toList = [47] then 0 else if 5 < (pieces s).length then 2 else if (namesR s).2 = true then 0 else 5
theorem head_bne (s : ByteArray) : ((rdOf ByteArray.empty (pieces s) 0).toList != ([] : List UInt8)) = !decide ((headR s).data.toList = []) := by
  unfold headR
  rw [tl]
  by_cases h : (rdOf ByteArray.empty (pieces s) 0).data.toList = []
  · rw [h]; rfl
  · rw [decide_eq_false h]
    exact bne_iff_ne.2 h
theorem fault_l0 (W : List ByteArray) (hW : ∀ x ∈ W, x.size ≤ 1048576) (hl : W.length ≤ 1048576) (d : Nat) : ∀ (i : Nat), i + d = W.length → Ev (fun k => impl_PathFault.l0 k W (W.length : Int) (i : Int)) (if (W.drop i).all nameB = true then 0 else 5) := by
  induction d with
  | zero =>
    intro i h
    rw [drop_end (by omega)]
    exact ev_done fun k => by simp only [impl_PathFault.l0]; rw [if_neg (by omega)]; rfl
  | succ d ih =>
    intro i h
    have hi : i < W.length := by omega
    have hx := hW W[i] (List.getElem_mem hi)
    rw [drop_at hi, List.all_cons]
    refine ev_step _ (fun k => by simp only [impl_PathFault.l0]; rw [if_pos (by omega), if_pos (by omega), if_pos (by omega), rdOf_at hi, wrap_up hi (by omega)]) (ev_call (name_impl W[i] (by omega)) ?_)
    cases c : nameB W[i] with
    | true => exact ev_cong (fun k => if_pos rfl) (by rw [Bool.true_and]; exact ih (i + 1) (by omega))
    | false => exact ev_is fun k => if_neg (by simp)
theorem names_l0 (W : List ByteArray) (hW : ∀ x ∈ W, x.size ≤ 1048576) (hl : W.length ≤ 1048576) (h1 : 1 ≤ W.length) (d : Nat) : ∀ (i : Nat), i + d = W.length → Ev (fun k => spec_l1Names.l0 k W (i : Int)) (if (W.drop i).all nameB = true then (W.drop 1, true) else ([], false)) := by
  induction d with
  | zero =>
    intro i h
    rw [drop_end (by omega)]
    exact ev_done fun k => by simp only [spec_l1Names.l0]; rw [if_neg (by omega), if_pos (by omega)]; rfl
  | succ d ih =>
    intro i h
    have hi : i < W.length := by omega
    have hx := hW W[i] (List.getElem_mem hi)
    rw [drop_at hi, List.all_cons]
    refine ev_step _ (fun k => by simp only [spec_l1Names.l0]; rw [if_pos (by omega), if_pos (by omega), rdOf_at hi, wrap_up hi (by omega)]) (ev_call (name_spec W[i] (by omega)) ?_)
    cases c : nameB W[i] with
    | true => exact ev_cong (fun k => if_pos rfl) (by rw [Bool.true_and]; exact ih (i + 1) (by omega))
    | false => exact ev_is fun k => if_neg (by simp)
theorem pieces_le (s : ByteArray) : (pieces s).length ≤ s.size + 1 := by
  have : s.data.toList.count 47 ≤ s.data.toList.length := List.count_le_length
  rw [pieces_len, size_list]
  omega
theorem names_spec (s : ByteArray) (hs : s.size ≤ 24) : Ev (fun k => spec_l1Names.f k s) (namesR s) := by
  have hl := pieces_le s
  unfold spec_l1Names.f namesR
  by_cases h : s.data.toList = [47]
  · rw [if_pos h]
    exact ev_is fun k => if_pos (by rw [tl]; exact h)
  · rw [if_neg h]
    refine ev_cong (fun k => if_neg (by rw [tl]; exact h)) (ev_call (cut_spec s (by omega)) ?_)
    by_cases h2 : (pieces s).length < 2
    · rw [if_pos h2]
      exact ev_cong (fun k => if_pos (by omega)) (ev_done fun k => by simp only [spec_l1Names.j0]; exact if_pos trivial)
    · rw [if_neg h2]
      refine ev_cong (fun k => (if_neg (by omega)).trans (if_pos (by omega))) ?_
      rw [head_bne]
      by_cases h3 : (headR s).data.toList = []
      · rw [if_pos h3]
        refine ev_step _ (fun k => by simp only [spec_l1Names.j0]; rw [if_neg (by simp [h3])]) ?_
        exact names_l0 (pieces s) (fun x hx => by have := pieces_size s x hx; omega) (by omega) (by omega) ((pieces s).length - 1) 1 (by omega)
      · rw [if_neg h3]
        exact ev_done fun k => by simp only [spec_l1Names.j0]; exact if_pos (by simp [h3])
theorem fault_spec (s : ByteArray) : Ev (fun k => spec_l1Fault.f k s) (faultR s) := by
  unfold spec_l1Fault.f faultR
  by_cases h : 24 < s.size
  · rw [if_pos h]
    exact ev_cong (fun k => if_pos (by omega)) (ev_done fun k => by simp only [spec_l1Fault.j0]; exact if_pos trivial)
  · rw [if_neg h]
    have tail : Ev (fun k => spec_l1Fault.j0 k s false) (if (namesR s).2 = true then 0 else 5) := by
      refine ev_step _ (fun k => by simp only [spec_l1Fault.j0]; rw [if_neg (by simp)]) (ev_call (names_spec s (by omega)) ?_)
      exact ev_is fun k => by by_cases h4 : (namesR s).2 = true <;> simp [h4]
    refine ev_cong (fun k => if_neg (by omega)) ?_
    by_cases h47 : s.data.toList = [47]
    · rw [if_pos h47]
      refine ev_cong (fun k => if_pos (by rw [tl]; exact h47)) ?_
      have e : (namesR s).2 = true := by unfold namesR; rw [if_pos h47]
      rw [if_pos e] at tail
      exact tail
    · rw [if_neg h47]
      refine ev_cong (fun k => if_neg (by rw [tl]; exact h47)) (ev_call (cut_spec s (by omega)) ?_)
      by_cases h5 : 5 < (pieces s).length
      · rw [if_pos h5, show decide (((pieces s).length : Int) > 5) = true from decide_eq_true (by omega)]
        exact ev_done fun k => by simp only [spec_l1Fault.j0]; exact if_pos trivial
      · rw [if_neg h5, show decide (((pieces s).length : Int) > 5) = false from decide_eq_false (by omega)]
        exact tail
theorem fault_impl (s : ByteArray) : Ev (fun k => impl_PathFault.f k s) (faultR s) := by
  unfold impl_PathFault.f faultR
  by_cases h : 24 < s.size
  · rw [if_pos h]
    exact ev_cong (fun k => if_pos (by omega)) (ev_done fun k => by simp only [impl_PathFault.j0]; exact if_pos trivial)
  · rw [if_neg h]
    have ct : strings_Count.f s (⟨#[47]⟩ : ByteArray) = some ((s.data.toList.count 47 : Nat) : Int) := if_pos rfl
    have pl := pieces_len s
    have hl := pieces_le s
    refine ev_cong (fun k => (if_neg (by omega)).trans (by rw [ct, Option.bind_some])) ?_
    by_cases h47 : s.data.toList = [47]
    · rw [if_pos h47, h47]
      refine ev_done fun k => ?_
      simp only [impl_PathFault.j0]; rw [if_neg (by decide), if_pos (by rw [tl]; exact h47)]
    · rw [if_neg h47]
      by_cases h5 : 5 < (pieces s).length
      · rw [if_pos h5, show decide (((s.data.toList.count 47 : Nat) : Int) > 4) = true from decide_eq_true (by omega)]
        exact ev_done fun k => by simp only [impl_PathFault.j0]; exact if_pos trivial
      · rw [if_neg h5, show decide (((s.data.toList.count 47 : Nat) : Int) > 4) = false from decide_eq_false (by omega)]
        refine ev_step _ (fun k => by simp only [impl_PathFault.j0]; rw [if_neg (by simp), if_neg (by rw [tl]; exact h47)]) (ev_call (split_impl s (by omega)) ?_)
        unfold namesR
        rw [if_neg h47]
        by_cases h2 : (pieces s).length < 2
        · rw [if_pos h2, if_neg (by simp)]
          exact ev_cong (fun k => if_pos (by omega)) (ev_done fun k => by simp only [impl_PathFault.j1]; exact if_pos trivial)
        · rw [if_neg h2]
          refine ev_cong (fun k => (if_neg (by omega)).trans (if_pos (by omega))) ?_
          rw [head_bne]
          by_cases h3 : (headR s).data.toList = []
          · rw [if_pos h3]
            refine ev_step _ (fun k => by simp only [impl_PathFault.j1]; rw [if_neg (by simp [h3]), if_pos (by omega), Option.bind_some]) ?_
            have := fault_l0 ((pieces s).drop 1) (fun x hx => by have := pieces_size s x (List.mem_of_mem_drop hx); omega) (by rw [List.length_drop]; omega) ((pieces s).drop 1).length 0 (by omega)
            rw [List.drop_zero] at this
            by_cases h6 : ((pieces s).drop 1).all nameB = true
            · rw [if_pos h6] at this ⊢; exact this
            · rw [if_neg h6] at this ⊢; exact this
          · rw [if_neg h3, if_neg (by simp)]
            exact ev_done fun k => by simp only [impl_PathFault.j1]; exact if_pos (by simp [h3])
/-- What is known of a path that has no fault. -/
theorem fault_zero {s : ByteArray} (h : faultR s = 0) : s.size ≤ 24 ∧ (s.data.toList = [47] ∨ s.data.toList ≠ [47] ∧ namesR s = ((pieces s).drop 1, true) ∧ 0 < s.data.toList.count 47) := by
  unfold faultR at h
  by_cases h1 : 24 < s.size
  · rw [if_pos h1] at h; omega
  · rw [if_neg h1] at h
    refine ⟨by omega, ?_⟩
    by_cases h2 : s.data.toList = [47]
    · exact .inl h2
    · rw [if_neg h2] at h
      refine .inr ⟨h2, ?_⟩
      by_cases h5 : 5 < (pieces s).length
      · rw [if_pos h5] at h; omega
      · rw [if_neg h5] at h
        have pl := pieces_len s
        by_cases h6 : (namesR s).2 = true
        · have h7 := h6
          unfold namesR at h6 ⊢
          rw [if_neg h2] at h6 ⊢
          by_cases h8 : (pieces s).length < 2
          · rw [if_pos h8] at h6; cases h6
          · rw [if_neg h8] at h6 ⊢
            by_cases h9 : (headR s).data.toList = []
            · rw [if_pos h9] at h6 ⊢
              by_cases h10 : ((pieces s).drop 1).all nameB = true
              · rw [if_pos h10]; exact ⟨rfl, by omega⟩
              · rw [if_neg h10] at h6; cases h6
            · rw [if_neg h9] at h6; cases h6
        · rw [if_neg h6] at h; omega
end Go.Proofs.YtajlnffefoeppaaDoor.Pure

/- The last mark of a path: by the program (strings.LastIndex) and by the reference the same. -/
namespace Go.Proofs.YtajlnffefoeppaaDoor.Pure
open Go.RowKit Go.Proofs.YtajlnffefoeppaaDoor.Qa Go.Proofs.YtajlnffefoeppaaDoorW.PrintWords Go.Proofs.YtajlnffefoeppaaDoorW.PrintLast Go.Proofs.YtajlnffefoeppaaDoor.Aid
theorem last_exists (l : List UInt8) (h : 0 < l.count 47) : ∃ (p : Nat) (hp : p < l.length), l[p] = 47 ∧ ∀ (j : Nat) (hj : j < l.length), p < j → l[j] ≠ 47 := by
  induction l with
  | nil => simp at h
  | cons c l ih =>
    by_cases h0 : 0 < l.count 47
    · obtain ⟨p, hp, h1, h2⟩ := ih h0
      refine ⟨p + 1, by simpa using hp, by simpa using h1, fun j hj hlt => ?_⟩
      cases j with
      | zero => omega
      | succ j => simpa using h2 j (by simpa using hj) (by omega)
    · have hc : c = 47 := by
        by_cases hc : c = 47
        · exact hc
        · rw [List.count_cons_of_ne (by simpa using hc)] at h
          exact absurd h h0
      refine ⟨0, by simp, by simpa using hc, fun j hj hlt => ?_⟩
      cases j with
      | zero => omega
      | succ j =>
        intro e
        have e' : l[j]'(by simpa using hj) = 47 := by simpa using e
        exact h0 (List.count_pos_iff.2 (e' ▸ List.getElem_mem _))
theorem ne_int {c : UInt8} (h : c ≠ 47) : ¬ ((c.toNat : Int) = 47) := fun e => h (by
  have e2 : c.toNat = 47 := by omega
  exact UInt8.toNat_inj.1 e2)
theorem last_spec_l0 (s : ByteArray) (hs : s.size ≤ 24) (p : Nat) (hp : p < s.data.toList.length) (h1 : s.data.toList[p] = 47) (h2 : ∀ (j : Nat) (hj : j < s.data.toList.length), p < j → s.data.toList[j] ≠ 47) (d : Nat) : ∀ (i : Nat) (x : Int), i + d = s.size → (p < i → x = (p : Int)) → Ev (fun k => spec_l1Last.l0 k s x (i : Int)) (p : Int) := by
  have hl := size_list s
  induction d with
  | zero =>
    intro i x h hx
    rw [hx (by omega)]
    exact ev_done fun k => by simp only [spec_l1Last.l0]; rw [if_neg (by omega)]
  | succ d ih =>
    intro i x h hx
    have hi : i < s.data.toList.length := by omega
    have q0 : (i : Int) < (s.size : Int) := by omega
    have q1 : (0 : Int) ≤ (i : Int) := by omega
    have wi := w_up i (by omega)
    by_cases c : s.data.toList[i] = 47
    · have hip : ¬ p < i := fun hlt => h2 i hi hlt c
      refine ev_step (fun k => spec_l1Last.l0 k s (i : Int) ((i + 1 : Nat) : Int)) (fun k => ?_) (ih (i + 1) (i : Int) (by omega) (fun hlt => by omega))
      simp only [spec_l1Last.l0]; rw [if_pos q0, if_pos q1, bt_at hi, c, if_pos (show ((UInt8.toNat 47 : Nat) : Int) = 47 from rfl), wi]
    · have hip : i ≠ p := fun e => c (by subst e; exact h1)
      refine ev_step (fun k => spec_l1Last.l0 k s x ((i + 1 : Nat) : Int)) (fun k => ?_) (ih (i + 1) x (by omega) (fun hlt => hx (by omega)))
      simp only [spec_l1Last.l0]; rw [if_pos q0, if_pos q1, bt_at hi, if_neg (ne_int c), wi]
theorem last_impl_l0 (s : ByteArray) (hs : s.size ≤ 24) (p : Nat) (hp : p < s.data.toList.length) (h1 : s.data.toList[p] = 47) (h2 : ∀ (j : Nat) (hj : j < s.data.toList.length), p < j → s.data.toList[j] ≠ 47) (d : Nat) : p + d < s.data.toList.length → Ev (fun k => bytealg_LastIndexByteString.l0 k s 47 ((p + d : Nat) : Int)) (p : Int) := by
  have hl := size_list s
  induction d with
  | zero =>
    intro _
    have q0 : ((p + 0 : Nat) : Int) < (s.size : Int) := by omega
    have q1 : (0 : Int) ≤ ((p + 0 : Nat) : Int) := by omega
    refine ev_done fun k => ?_
    simp only [bytealg_LastIndexByteString.l0]; rw [if_pos q1, if_pos q1, if_pos q0, bt_at (show p + 0 < s.data.toList.length from hp), if_pos (by simp only [Nat.add_zero, h1]; rfl)]
    rfl
  | succ d ih =>
    intro hd
    have q0 : ((p + (d + 1) : Nat) : Int) < (s.size : Int) := by omega
    have q1 : (0 : Int) ≤ ((p + (d + 1) : Nat) : Int) := by omega
    have wi : wrap64 (((p + (d + 1) : Nat) : Int) - 1) = ((p + d : Nat) : Int) := by rw [wrap_id (by omega) (by omega)]; omega
    refine ev_step (fun k => bytealg_LastIndexByteString.l0 k s 47 ((p + d : Nat) : Int)) (fun k => ?_) (ih (by omega))
    simp only [bytealg_LastIndexByteString.l0]; rw [if_pos q1, if_pos q1, if_pos q0, bt_at hd, if_neg (ne_int (h2 _ hd (by omega))), wi]
/-- Where the last mark is. -/
theorem last_both (s : ByteArray) (hs : s.size ≤ 24) (h : 0 < s.data.toList.count 47) : ∃ (p : Nat) (hp : p < s.data.toList.length), s.data.toList[p] = 47 ∧ Ev (fun k => spec_l1Last.f k s) (p : Int) ∧ Ev (fun k => strings_LastIndex.f k s (⟨#[47]⟩ : ByteArray)) (p : Int) := by
  have hl := size_list s
  obtain ⟨p, hp, h1, h2⟩ := last_exists _ h
  refine ⟨p, hp, h1, last_spec_l0 s hs p hp h1 h2 s.size 0 0 (by omega) (fun h => by omega), ?_⟩
  have hd := last_impl_l0 s hs p hp h1 h2 (s.data.toList.length - 1 - p) (by omega)
  have e : wrap64 ((s.size : Int) - 1) = ((p + (s.data.toList.length - 1 - p) : Nat) : Int) := by rw [wrap_id (by omega) (by omega)]; omega
  have e1 : ((⟨#[47]⟩ : ByteArray).size : Int) = 1 := rfl
  have e2 : bt (⟨#[47]⟩ : ByteArray) 0 = 47 := rfl
  unfold strings_LastIndex.f
  rw [e1, e2]
  refine ev_cong (fun k => (if_neg (by omega)).trans ((if_pos rfl).trans (if_pos (by omega)))) (ev_call (a := (p : Int)) ?_ (Ev.now _))
  unfold bytealg_LastIndexByteString.f
  rw [e]
  exact hd
theorem parted_both (s : ByteArray) (hs : s.size ≤ 24) (h : 0 < s.data.toList.count 47) : ∃ (u n : ByteArray), Ev (fun k => impl_parted.f k s) (u, n) ∧ (∃ p : Nat, p < s.size ∧ n = s.extract (p + 1) s.size ∧ u = (if p = 0 then (⟨#[47]⟩ : ByteArray) else s.extract 0 p) ∧ Ev (fun k => spec_l1Last.f k s) (p : Int)) := by
  have hl := size_list s
  obtain ⟨p, hp, h1, h2, h3⟩ := last_both s hs h
  have hz : s.extract 0 1 = mkB [s.data.toList[0]] := by
    rw [ext_mk]
    congr 1
    rw [show (1 : Nat) - 0 = 0 + 1 from rfl, List.drop_zero, List.take_succ_eq_append_getElem (by omega)]
    rfl
  refine ⟨if p = 0 then (⟨#[47]⟩ : ByteArray) else s.extract 0 p, s.extract (p + 1) s.size, ?_, p, by omega, rfl, rfl, h2⟩
  unfold impl_parted.f
  refine ev_call h3 (ev_is fun k => ?_)
  have wi := w_up p (by omega)
  have q3 : (0 : Int) ≤ ((p + 1 : Nat) : Int) := by omega
  have q4 : ((p + 1 : Nat) : Int) ≤ (s.size : Int) := by omega
  by_cases c : p = 0
  · subst c
    have m : mx ((0 : Nat) : Int) 1 = 1 := rfl
    rw [m, if_pos (by omega), if_pos (by omega), wi, if_pos q3, if_pos q4, if_pos rfl, show ((1 : Int).toNat) = 1 from rfl, hz, h1, Int.toNat_natCast]
    rfl
  · have m : mx (p : Int) 1 = (p : Int) := by unfold mx; rw [if_neg (by omega)]
    rw [m, if_pos (by omega), if_pos (by omega), wi, if_pos q3, if_pos q4, if_neg c, Int.toNat_natCast, Int.toNat_natCast]
end Go.Proofs.YtajlnffefoeppaaDoor.Pure

/- Texts in order: what a comparison of two texts says of their bytes; searches in rising lists. -/
namespace Go.Proofs.YtajlnffefoeppaaDoor.Aid
open Go.RowKit Go.Proofs.YtajlnffefoeppaaDoorW.PrintWords

theorem u8_tri (a b : UInt8) (h1 : ¬ a < b) (h2 : ¬ b < a) : a = b := by
  have e1 : ¬ a.toNat < b.toNat := h1
  have e2 : ¬ b.toNat < a.toNat := h2
  exact UInt8.toNat_inj.1 (by omega)
theorem bl_lt : ∀ (x y : List UInt8), Op.bytesLess x y = decide (x < y)
  | [], [] => by simp [Op.bytesLess]
  | _ :: _, [] => by simp [Op.bytesLess]
  | [], _ :: _ => by simp [Op.bytesLess]
  | a :: x, b :: y => by
    rw [Op.bytesLess, bl_lt x y]
    rw [Bool.eq_iff_iff]
    simp [List.cons_lt_cons_iff]
theorem cmp_is : ∀ (x y : List UInt8), Lib.compareBytes x y = if x < y then -1 else if x = y then 0 else 1
  | [], [] => by simp [Lib.compareBytes]
  | _ :: _, [] => by simp [Lib.compareBytes]
  | [], _ :: _ => by simp [Lib.compareBytes]
  | a :: x, b :: y => by
    rw [Lib.compareBytes, cmp_is x y]
    by_cases h1 : a < b
    · rw [if_pos h1, if_pos (List.cons_lt_cons_iff.2 (.inl h1))]
    · rw [if_neg h1]
      by_cases h2 : b < a
      · have hne : a ≠ b := fun e => by subst e; exact h1 h2
        rw [if_pos h2, if_neg (fun h => by
          rcases List.cons_lt_cons_iff.1 h with h | ⟨h, _⟩
          · exact h1 h
          · exact hne h), if_neg (fun h => hne (List.cons.inj h).1)]
      · have e := u8_tri a b h1 h2
        subst e
        rw [if_neg h2]
        by_cases h3 : x < y
        · rw [if_pos h3, if_pos (List.cons_lt_cons_iff.2 (.inr ⟨rfl, h3⟩))]
        · have h5 : ¬ (a :: x < a :: y) := fun h => by
            rcases List.cons_lt_cons_iff.1 h with h | ⟨_, h⟩
            · exact h1 h
            · exact h3 h
          rw [if_neg h3, if_neg h5]
          by_cases h4 : x = y
          · subst h4
            rw [if_pos rfl, if_pos rfl]
          · have h6 : ¬ (a :: x = a :: y) := fun h => h4 (List.cons.inj h).2
            rw [if_neg h4, if_neg h6]
theorem lt_irr (x : List UInt8) : ¬ x < x := List.lt_irrefl x
theorem lt_tr {x y z : List UInt8} (h : x < y) (k : y < z) : x < z := List.lt_trans h k
theorem lt_tri {x y : List UInt8} (h : ¬ x < y) (k : ¬ x = y) : y < x := by
  have := cmp_is x y
  rw [if_neg h, if_neg k] at this
  rcases Decidable.em (y < x) with c | c
  · exact c
  · exact absurd (List.le_antisymm c h) k
theorem ba_ext {a b : ByteArray} (h : a.data.toList = b.data.toList) : a = b := by
  obtain ⟨⟨a⟩⟩ := a
  obtain ⟨⟨b⟩⟩ := b
  exact congrArg (fun l => (⟨⟨l⟩⟩ : ByteArray)) h
/-- The place of a key in a list that rises. -/
def posK {α : Type} (key : α → List UInt8) (l : List α) (q : List UInt8) : Nat := (l.takeWhile (fun z => decide (key z < q))).length
def hereK {α : Type} (key : α → List UInt8) (l : List α) (q : List UInt8) : Bool := match l[posK key l q]? with
  | some z => decide (key z = q)
  | none => false
def Rises {α : Type} (key : α → List UInt8) (l : List α) : Prop := l.Pairwise (fun x y => key x < key y)
theorem posK_le {α : Type} (key : α → List UInt8) (l : List α) (q : List UInt8) : posK key l q ≤ l.length := take_pos_le _ l
theorem posK_iff {α : Type} {key : α → List UInt8} {l : List α} (h : Rises key l) (q : List UInt8) (j : Nat) (hj : j < l.length) : key l[j] < q ↔ j < posK key l q := by
  have := take_pos (fun z : α => decide (key z < q)) l (h.imp (fun {x y} hxy hy => decide_eq_true (lt_tr hxy (of_decide_eq_true hy)))) j hj
  rw [decide_eq_true_eq] at this
  exact this
theorem hereK_lt {α : Type} {key : α → List UInt8} {l : List α} {q : List UInt8} (h : hereK key l q = true) : posK key l q < l.length := by
  unfold hereK at h
  cases hp : l[posK key l q]? with
  | none => rw [hp] at h; cases h
  | some s => exact (List.getElem?_eq_some_iff.1 hp).1
theorem hereK_eq {α : Type} {key : α → List UInt8} {l : List α} {q : List UInt8} (h : hereK key l q = true) : key (l[posK key l q]'(hereK_lt h)) = q := by
  have hp := hereK_lt h
  unfold hereK at h
  rw [List.getElem?_eq_getElem hp] at h
  exact of_decide_eq_true h
theorem hereK_at {α : Type} {key : α → List UInt8} {l : List α} (h : Rises key l) (j : Nat) (hj : j < l.length) : posK key l (key l[j]) = j ∧ hereK key l (key l[j]) = true := by
  have h1 := (posK_iff h (key l[j]) j hj)
  have h2 : ¬ j < posK key l (key l[j]) := fun c => lt_irr _ (h1.2 c)
  have h3 : ¬ posK key l (key l[j]) < j := fun c => by
    have hp : posK key l (key l[j]) < l.length := by omega
    have := (List.pairwise_iff_getElem.1 h) _ _ hp hj c
    have := (posK_iff h (key l[j]) _ hp).1 this
    omega
  have e : posK key l (key l[j]) = j := by omega
  refine ⟨e, ?_⟩
  unfold hereK
  rw [e, List.getElem?_eq_getElem hj]
  exact decide_eq_true rfl
theorem hereK_mem {α : Type} {key : α → List UInt8} {l : List α} (h : Rises key l) {z : α} (hz : z ∈ l) : hereK key l (key z) = true := by
  obtain ⟨j, hj, rfl⟩ := List.getElem_of_mem hz
  exact (hereK_at h j hj).2
/-- Behind its place all are greater. -/
theorem posK_gt {α : Type} {key : α → List UInt8} {l : List α} (h : Rises key l) (q : List UInt8) (hq : hereK key l q = false) (j : Nat) (hj : j < l.length) : key l[j] ≠ q := by
  intro e
  have := (hereK_at h j hj).2
  rw [e, hq] at this
  cases this
end Go.Proofs.YtajlnffefoeppaaDoor.Aid

/- What is wrong with a tree, in plain words of lists; paths' parents. -/
namespace Go.Proofs.YtajlnffefoeppaaDoor.Pure
open Go.RowKit Go.Proofs.YtajlnffefoeppaaDoor.Qa Go.Proofs.YtajlnffefoeppaaDoorW.PrintWords Go.Proofs.YtajlnffefoeppaaDoorW.PrintLast Go.Proofs.YtajlnffefoeppaaDoor.Aid

theorem splF_head : ∀ (l P : List UInt8), P ≠ [] → ∃ x r, splF P l = x :: r ∧ x ≠ []
  | [], P, h => ⟨P, [], rfl, h⟩
  | c :: l, P, h => by
    unfold splF
    by_cases hc : c = 47
    · rw [if_pos hc]; exact ⟨P, _, rfl, h⟩
    · rw [if_neg hc]; exact splF_head l _ (by simp)
/-- A path that has no fault begins with a mark. -/
theorem path_mark {s : ByteArray} (h : faultR s = 0) : s.size ≤ 24 ∧ (∃ t, s.data.toList = 47 :: t) ∧ 0 < s.data.toList.count 47 := by
  have hl := size_list s
  obtain ⟨h1, h2⟩ := fault_zero h
  refine ⟨h1, ?_⟩
  rcases h2 with h2 | ⟨h2, h3, h4⟩
  · rw [h2]; exact ⟨⟨[], rfl⟩, by decide⟩
  · refine ⟨?_, h4⟩
    have hn : (namesR s).2 = true := by rw [h3]
    unfold namesR at hn
    rw [if_neg h2] at hn
    by_cases h5 : (pieces s).length < 2
    · rw [if_pos h5] at hn; cases hn
    · rw [if_neg h5] at hn
      by_cases h6 : (headR s).data.toList = []
      · cases hs : s.data.toList with
        | nil => rw [hs] at h4; simp at h4
        | cons c t =>
          by_cases hc : c = 47
          · exact ⟨t, by rw [hc]⟩
          · exfalso
            obtain ⟨x, r, hx, hne⟩ := splF_head t [c] (by simp)
            have e : pieces s = (x :: r).map mkB := by
              unfold pieces
              rw [hs, splF, if_neg hc, List.nil_append, hx]
            unfold headR at h6
            rw [e, List.map_cons] at h6
            exact hne h6
      · rw [if_neg h6] at hn; cases hn

/-- The parent and the last name of a path. -/
theorem up_ex (s : ByteArray) (h : faultR s = 0) : ∃ un : ByteArray × ByteArray, Ev (fun k => impl_parted.f k s) un ∧ ∃ p : Nat, p < s.size ∧ un.2 = s.extract (p + 1) s.size ∧ un.1 = (if p = 0 then (⟨#[47]⟩ : ByteArray) else s.extract 0 p) ∧ Ev (fun k => spec_l1Last.f k s) (p : Int) := by
  obtain ⟨h1, _, h3⟩ := path_mark h
  obtain ⟨u, n, h4, p, h5⟩ := parted_both s h1 h3
  exact ⟨(u, n), h4, p, h5⟩
open Classical in
noncomputable def upN (s : ByteArray) : ByteArray × ByteArray := if h : faultR s = 0 then (up_ex s h).choose else (⟨#[]⟩, ⟨#[]⟩)
noncomputable def upR (s : ByteArray) : ByteArray := (upN s).1
noncomputable def nmR (s : ByteArray) : ByteArray := (upN s).2
theorem upN_spec {s : ByteArray} (h : faultR s = 0) : Ev (fun k => impl_parted.f k s) (upN s) ∧ ∃ p : Nat, p < s.size ∧ nmR s = s.extract (p + 1) s.size ∧ upR s = (if p = 0 then (⟨#[47]⟩ : ByteArray) else s.extract 0 p) ∧ Ev (fun k => spec_l1Last.f k s) (p : Int) := by
  unfold nmR upR upN
  rw [dif_pos h]
  exact (up_ex s h).choose_spec
theorem parted_is {s : ByteArray} (h : faultR s = 0) : Ev (fun k => impl_parted.f k s) (upR s, nmR s) := (upN_spec h).1
theorem parent_is {s : ByteArray} (h : faultR s = 0) : Ev (fun k => spec_l1Parent.f k s) (upR s) := by
  obtain ⟨_, p, h6, _, h8, h9⟩ := upN_spec h
  unfold spec_l1Parent.f
  refine ev_call h9 (ev_is fun k => ?_)
  rw [h8]
  by_cases c : p = 0
  · rw [if_pos (by omega), if_pos c]
  · rw [if_neg (by omega), if_pos (by omega), if_pos (by omega), if_neg c, Int.toNat_natCast]
theorem upR_size {s : ByteArray} (h : faultR s = 0) : (upR s).size ≤ 24 ∧ (nmR s).size ≤ 24 := by
  obtain ⟨_, p, h6, h7, h8, _⟩ := upN_spec h
  have := (path_mark h).1
  have sz : ∀ a b : Nat, b ≤ 24 → (s.extract a b).size ≤ 24 := fun a b hb => by
    rw [size_list, ext_list, List.length_take, List.length_drop]
    omega
  rw [h7, h8]
  refine ⟨?_, sz _ _ this⟩
  by_cases c : p = 0
  · rw [if_pos c]; decide
  · rw [if_neg c]; exact sz _ _ (by omega)
theorem top_fault : faultR (⟨#[47]⟩ : ByteArray) = 0 := by unfold faultR; decide
theorem upR_top (s : ByteArray) (hs : s.data.toList = [47]) : upR s = (⟨#[47]⟩ : ByteArray) := by
  have h : faultR s = 0 := by unfold faultR; rw [if_neg (by rw [size_list, hs]; decide), if_pos hs]
  obtain ⟨_, p, h6, _, h8, _⟩ := upN_spec h
  rw [size_list, hs] at h6
  rw [h8, if_pos (by simpa using h6)]

abbrev ZZ := S44
def pk (z : ZZ) : List UInt8 := z.f0.data.toList
def zIn (z : ZZ) : Bool := decide (0 ≤ z.f1 ∧ z.f1 ≤ 9999) && (decide (0 ≤ z.f2 ∧ z.f2 ≤ 999) && (decide (0 ≤ z.f3 ∧ z.f3 ≤ 9) && decide (0 ≤ z.f4 ∧ z.f4 ≤ 100)))
/-- What is wrong with one node. -/
def zOwn (z : ZZ) : Int := if faultR z.f0 = 0 then (if zIn z = true then 0 else 3) else faultR z.f0
def zOne (prev : Option (List UInt8)) (z : ZZ) : Int := if zOwn z = 0 then (match prev with
  | some p => if p < pk z then 0 else 1
  | none => 0) else zOwn z
def zFrom : Option (List UInt8) → List ZZ → Int
  | _, [] => 0
  | prev, z :: r => if zOne prev z = 0 then zFrom (some (pk z)) r else zOne prev z
theorem zFrom_cons {prev : Option (List UInt8)} {z : ZZ} {r : List ZZ} : zFrom prev (z :: r) = if zOne prev z = 0 then zFrom (some (pk z)) r else zOne prev z := rfl
theorem zOwn_ok {z : ZZ} (h : zOwn z = 0) : faultR z.f0 = 0 ∧ zIn z = true := by
  unfold zOwn at h
  by_cases h1 : faultR z.f0 = 0
  · rw [if_pos h1] at h
    by_cases h2 : zIn z = true
    · exact ⟨h1, h2⟩
    · rw [if_neg h2] at h; cases h
  · rw [if_neg h1] at h; exact absurd h h1
theorem zFrom_ok : ∀ (l : List ZZ) (prev : Option (List UInt8)), zFrom prev l = 0 → (∀ z ∈ l, zOwn z = 0) ∧ Rises pk l ∧ ∀ p, prev = some p → ∀ z ∈ l, p < pk z
  | [], _, _ => ⟨by simp, List.Pairwise.nil, by simp⟩
  | z :: r, prev, h => by
    rw [zFrom_cons] at h
    by_cases h1 : zOne prev z = 0
    · rw [if_pos h1] at h
      obtain ⟨g1, g2, g3⟩ := zFrom_ok r (some (pk z)) h
      have hg : zOwn z = 0 := by
        unfold zOne at h1
        by_cases c : zOwn z = 0
        · exact c
        · rw [if_neg c] at h1; exact h1
      have hp : ∀ p, prev = some p → p < pk z := by
        intro p hp
        subst hp
        unfold zOne at h1
        rw [if_pos hg] at h1
        by_cases c : p < pk z
        · exact c
        · simp [c] at h1
      refine ⟨?_, List.pairwise_cons.2 ⟨fun y hy => g3 _ rfl y hy, g2⟩, ?_⟩
      · intro x hx
        rcases List.mem_cons.1 hx with rfl | hx
        · exact hg
        · exact g1 x hx
      · intro p he x hx
        rcases List.mem_cons.1 hx with rfl | hx
        · exact hp p he
        · exact lt_tr (hp p he) (g3 _ rfl x hx)
    · rw [if_neg h1] at h; exact absurd h h1
noncomputable def upK (z : ZZ) : List UInt8 := (upR z.f0).data.toList
noncomputable def upHere (l : List ZZ) (z : ZZ) : Bool := hereK pk l (upK z)
noncomputable def upOwn (l : List ZZ) (z : ZZ) : Bool := !decide ((rd_T44 l (posK pk l (upK z) : Int)).f3 = 0)
/-- What is wrong with a tree. -/
noncomputable def treeR (l : List ZZ) : Int :=
  if l.length > 20 then 2 else if zFrom none l = 0 then
    (if hereK pk l [47] = true then (if l.all (upHere l) = true then (if l.any (upOwn l) = true then 1 else 0) else 4) else 4)
  else zFrom none l
/-- A tree that has no fault. -/
structure RightT (l : List ZZ) : Prop where
  few : l.length ≤ 20
  good : ∀ z ∈ l, zOwn z = 0
  rise : Rises pk l
  top : hereK pk l [47] = true
  ups : ∀ z ∈ l, upHere l z = true
  free : ∀ z ∈ l, upOwn l z = false
theorem right_of {l : List ZZ} (h : treeR l = 0) : RightT l := by
  unfold treeR at h
  by_cases h1 : l.length > 20
  · rw [if_pos h1] at h; cases h
  · rw [if_neg h1] at h
    by_cases h2 : zFrom none l = 0
    · rw [if_pos h2] at h
      obtain ⟨g1, g2, _⟩ := zFrom_ok l none h2
      by_cases h3 : hereK pk l [47] = true
      · rw [if_pos h3] at h
        by_cases h4 : l.all (upHere l) = true
        · rw [if_pos h4] at h
          by_cases h5 : l.any (upOwn l) = true
          · rw [if_pos h5] at h; cases h
          · refine ⟨by omega, g1, g2, h3, List.all_eq_true.1 h4, fun z hz => ?_⟩
            cases c : upOwn l z with
            | false => rfl
            | true => exact absurd (List.any_eq_true.2 ⟨z, hz, c⟩) h5
        · rw [if_neg h4] at h; cases h
      · rw [if_neg h3] at h; cases h
    · rw [if_neg h2] at h; exact absurd h h2
theorem RightT.zero {l : List ZZ} (h : RightT l) (hz : zFrom none l = 0) : treeR l = 0 := by
  unfold treeR
  rw [if_neg (by have := h.few; omega), if_pos hz, if_pos h.top, if_pos (List.all_eq_true.2 h.ups), if_neg (fun c => by
    obtain ⟨z, hz, c⟩ := List.any_eq_true.1 c
    rw [h.free z hz] at c
    cases c)]
theorem top_first {l : List ZZ} (hg : ∀ z ∈ l, zOwn z = 0) (hr : Rises pk l) (h : hereK pk l [47] = true) : posK pk l [47] = 0 := by
  have hp := hereK_lt h
  have h0 : 0 < l.length := by omega
  have hn : ¬ pk l[0] < [47] := by
    obtain ⟨_, ⟨t, ht⟩, _⟩ := path_mark (zOwn_ok (hg _ (List.getElem_mem h0))).1
    unfold pk
    rw [ht]
    intro c
    rcases List.cons_lt_cons_iff.1 c with c | ⟨_, c⟩
    · exact UInt8.lt_irrefl _ c
    · exact absurd c (by simp)
  have := (not_congr (posK_iff hr [47] 0 h0)).1 hn
  omega
end Go.Proofs.YtajlnffefoeppaaDoor.Pure

/- What is wrong with a tree: by the program (a search by halves) and by the reference (one by one) the same, for every list of nodes. -/
namespace Go.Proofs.YtajlnffefoeppaaDoor.Pure
open Go.RowKit Go.Proofs.YtajlnffefoeppaaDoor.Qa Go.Proofs.YtajlnffefoeppaaDoorW.PrintWords Go.Proofs.YtajlnffefoeppaaDoorW.PrintLast Go.Proofs.YtajlnffefoeppaaDoor.Aid

theorem bl_pk (a b : ByteArray) : (Op.bytesLess a.toList b.toList = true) = (a.data.toList < b.data.toList) := by
  rw [tl, tl, bl_lt]
  exact decide_eq_true_eq
theorem order_is (z : ZZ) (q : ByteArray) : impl_pathOrder.f z.f0 z.f1 z.f2 z.f3 z.f4 q = some (if pk z < q.data.toList then -1 else if pk z = q.data.toList then 0 else 1) := by
  unfold impl_pathOrder.f strings_Compare.f
  rw [cmp_is]
  rfl
/-- The search by halves. -/
theorem find_l0 {l : List ZZ} (h : Rises pk l) (hl : l.length ≤ 1048576000) (q : ByteArray) (d : Nat) : ∀ (lo hi : Nat), hi - lo ≤ d → lo ≤ posK pk l q.data.toList → posK pk l q.data.toList ≤ hi → hi ≤ l.length → Ev (fun k => slices_BinarySearchFunc_impl_Znode_impl_Znode_string.l0 k l q (l.length : Int) (lo : Int) (hi : Int)) ((posK pk l q.data.toList : Int), hereK pk l q.data.toList) := by
  induction d with
  | zero =>
    intro lo hi hd h1 h2 h3
    have e : lo = posK pk l q.data.toList := by omega
    subst e
    refine ev_done fun k => ?_
    simp only [slices_BinarySearchFunc_impl_Znode_impl_Znode_string.l0]
    rw [if_neg (by omega)]
    by_cases hp : posK pk l q.data.toList < l.length
    · rw [if_pos (by omega), if_pos (by omega), if_pos (by omega), rd_T44_at hp, order_is, Option.bind_some]
      have hn : ¬ pk (l[posK pk l q.data.toList]) < q.data.toList := fun c => by have := (posK_iff h q.data.toList _ hp).1 c; omega
      have e : hereK pk l q.data.toList = decide (pk (l[posK pk l q.data.toList]) = q.data.toList) := by unfold hereK; rw [List.getElem?_eq_getElem hp]
      rw [e, if_neg hn]
      by_cases c : pk (l[posK pk l q.data.toList]) = q.data.toList
      · rw [if_pos c, decide_eq_true c]; rfl
      · rw [if_neg c, decide_eq_false c]; rfl
    · rw [if_neg (by omega)]
      have e : hereK pk l q.data.toList = false := by unfold hereK; rw [List.getElem?_eq_none (by omega)]
      rw [e]
  | succ d ih =>
    intro lo hi hd h1 h2 h3
    by_cases hlt : lo < hi
    · have hm : (lo + hi) / 2 < l.length := by omega
      have hiff := posK_iff h q.data.toList _ hm
      have hmid := mid_eq (a := lo) (b := hi) (by omega)
      by_cases c : pk (l[(lo + hi) / 2]) < q.data.toList
      · refine ev_step (fun k => slices_BinarySearchFunc_impl_Znode_impl_Znode_string.l0 k l q (l.length : Int) (((lo + hi) / 2 + 1 : Nat) : Int) (hi : Int)) (fun k => ?_) (ih _ _ (by omega) (by have := hiff.1 c; omega) h2 h3)
        simp only [slices_BinarySearchFunc_impl_Znode_impl_Znode_string.l0]
        rw [hmid, if_pos (by omega), if_pos (by omega), if_pos (by omega), rd_T44_at hm, order_is, if_pos c, Option.bind_some, if_pos (by omega), wrap_up hm (by omega)]
      · refine ev_step (fun k => slices_BinarySearchFunc_impl_Znode_impl_Znode_string.l0 k l q (l.length : Int) (lo : Int) (((lo + hi) / 2 : Nat) : Int)) (fun k => ?_) (ih _ _ (by omega) h1 (by have := (not_congr hiff).1 c; omega) (by omega))
        simp only [slices_BinarySearchFunc_impl_Znode_impl_Znode_string.l0]
        rw [hmid, if_pos (by omega), if_pos (by omega), if_pos (by omega), rd_T44_at hm, order_is, if_neg c, Option.bind_some, if_neg (by split <;> omega)]
    · exact (fun e : hi - lo ≤ d => ih lo hi e h1 h2 h3) (by omega)
theorem find_is {l : List ZZ} (h : Rises pk l) (hl : l.length ≤ 1048576000) (q : ByteArray) : Ev (fun k => impl_find.f k l q) ((posK pk l q.data.toList : Int), hereK pk l q.data.toList) := by
  unfold impl_find.f slices_BinarySearchFunc_impl_Znode_impl_Znode_string.f
  exact ev_call (find_l0 h hl q l.length 0 l.length (by omega) (by omega) (posK_le pk l _) (Nat.le_refl _)) (Ev.now _)
/-- One by one. -/
theorem at_l0 {l : List ZZ} (h : Rises pk l) (hl : l.length ≤ 1048576000) (q : ByteArray) (d : Nat) : ∀ (i : Nat), i + d = l.length → (hereK pk l q.data.toList = true → i ≤ posK pk l q.data.toList) → Ev (fun k => spec_l2At.l0 k l q (i : Int)) (if hereK pk l q.data.toList then (posK pk l q.data.toList : Int) else -1) := by
  induction d with
  | zero =>
    intro i hd hi
    have e : hereK pk l q.data.toList = false := by
      cases c : hereK pk l q.data.toList with
      | false => rfl
      | true => have := hereK_lt c; have := hi c; omega
    rw [e]
    exact ev_done fun k => by simp only [spec_l2At.l0]; rw [if_neg (by omega)]; rfl
  | succ d ih =>
    intro i hd hi
    have hil : i < l.length := by omega
    by_cases c : pk l[i] = q.data.toList
    · obtain ⟨e1, e2⟩ := hereK_at h i hil
      rw [c] at e1 e2
      rw [e2, e1]
      exact ev_done fun k => by simp only [spec_l2At.l0]; rw [if_pos (by omega), if_pos (by omega), rd_T44_at hil, tl, tl, if_pos (show (l[i]).f0.data.toList = q.data.toList from c)]; rfl
    · refine ev_step (fun k => spec_l2At.l0 k l q ((i + 1 : Nat) : Int)) (fun k => ?_) (ih (i + 1) (by omega) (fun hh => ?_))
      · simp only [spec_l2At.l0]; rw [if_pos (by omega), if_pos (by omega), rd_T44_at hil, tl, tl, if_neg (show ¬ (l[i]).f0.data.toList = q.data.toList from c), wrap_up hil (by omega)]
      · have h1 := hi hh
        have h2 := hereK_eq hh
        have : i ≠ posK pk l q.data.toList := fun e => c (by
          have : ∀ (j : Nat) (hj : j < l.length), i = j → pk l[j] = q.data.toList → pk l[i] = q.data.toList := fun j hj e => by subst e; exact id
          exact this _ (hereK_lt hh) e h2)
        omega
theorem at_is {l : List ZZ} (h : Rises pk l) (hl : l.length ≤ 1048576000) (q : ByteArray) : Ev (fun k => spec_l2At.f k l q) (if hereK pk l q.data.toList then (posK pk l q.data.toList : Int) else -1) := at_l0 h hl q l.length 0 (by omega) (fun _ => Nat.zero_le _)

/-- One node, by the program. -/
theorem nodeFault_is (z : ZZ) : Ev (fun k => impl_nodeFault.f k z.f0 z.f1 z.f2 z.f3 z.f4) (zOwn z) := by
  unfold impl_nodeFault.f zOwn
  refine ev_call (fault_impl z.f0) (ev_is fun k => ?_)
  by_cases h : faultR z.f0 = 0
  · rw [if_pos h, if_pos h]
    unfold impl_isData.f impl_isOwner.f zIn
    rw [impl_within_is, impl_within_is, impl_within_is, impl_within_is]
    by_cases c1 : 0 ≤ z.f1 ∧ z.f1 ≤ 9999 <;> by_cases c2 : 0 ≤ z.f2 ∧ z.f2 ≤ 999 <;> by_cases c3 : 0 ≤ z.f3 ∧ z.f3 ≤ 9 <;> by_cases c4 : 0 ≤ z.f4 ∧ z.f4 ≤ 100 <;> simp [c1, c2, c3, c4]
  · rw [if_neg h, if_neg h]
def prevK (l : List ZZ) : Nat → Option (List UInt8)
  | 0 => none
  | i + 1 => some (pk (rd_T44 l (i : Int)))
theorem wrap_dn {i : Nat} (h : i < 4611686018427387904) : wrap64 (((i + 1 : Nat) : Int) - 1) = (i : Int) := by
  rw [wrap_id (by omega) (by omega)]
  omega
/-- What is left when the nodes one by one are right. -/
theorem impl_l0 (l : List ZZ) (hl : l.length ≤ 20) (r : Int) (hr : zFrom none l = 0 → Ev (fun k => impl_TreeFault.l0 k l l (l.length : Int) (l.length : Int)) r) (d : Nat) : ∀ (i : Nat), i + d = l.length → (zFrom none l = zFrom (prevK l i) (l.drop i)) → Ev (fun k => impl_TreeFault.l0 k l l (l.length : Int) (i : Int)) (if zFrom none l = 0 then r else zFrom none l) := by
  induction d with
  | zero =>
    intro i h he
    have e : i = l.length := by omega
    subst e
    rw [List.drop_length] at he
    have h0 : zFrom none l = 0 := he
    rw [if_pos h0]
    exact hr h0
  | succ d ih =>
    intro i h he
    have hi : i < l.length := by omega
    have hrd := rd_T44_at hi
    rw [drop_at hi, zFrom_cons] at he
    have hp : prevK l (i + 1) = some (pk l[i]) := by rw [prevK, hrd]
    refine ev_step (fun k => (impl_nodeFault.f k (l[i]).f0 (l[i]).f1 (l[i]).f2 (l[i]).f3 (l[i]).f4).bind fun t103 => (if t103 = 0 then (if (i : Int) > 0 then (if 0 ≤ (wrap64 ((i : Int) - 1)) then (if (wrap64 ((i : Int) - 1)) < (l.length : Int) then (if ((Op.bytesLess (((rd_T44 l (wrap64 ((i : Int) - 1))).f0).toList) (((l[i]).f0).toList)) = true) then (impl_TreeFault.l0 k l l (l.length : Int) ((i + 1 : Nat) : Int)) else (some 1)) else (none)) else (none)) else (impl_TreeFault.l0 k l l (l.length : Int) ((i + 1 : Nat) : Int))) else (some t103))) (fun k => ?_) (ev_call (nodeFault_is l[i]) ?_)
    · simp only [impl_TreeFault.l0]
      rw [if_pos (by omega), if_pos (by omega), if_pos (by omega), hrd, wrap_up hi (by omega)]
    · by_cases ho : zOwn l[i] = 0
      · refine ev_cong (fun k => if_pos ho) ?_
        cases i with
        | zero =>
          have e1 : zOne (prevK l 0) l[0] = 0 := by unfold zOne; rw [if_pos ho]; rfl
          rw [if_pos e1] at he
          rw [← hp] at he
          exact ev_cong (fun k => if_neg (by omega)) (ih 1 (by omega) he)
        | succ j =>
          have hj : j < l.length := by omega
          have wd := wrap_dn (i := j) (by omega)
          refine ev_cong (fun k => (if_pos (by omega)).trans ?_) (f := fun k => if ((Op.bytesLess (((rd_T44 l (j : Int)).f0).toList) (((l[j + 1]).f0).toList)) = true) then (impl_TreeFault.l0 k l l (l.length : Int) ((j + 1 + 1 : Nat) : Int)) else (some 1)) ?_
          · rw [wd, if_pos (by omega), if_pos (by omega)]
          · by_cases c : pk (rd_T44 l (j : Int)) < pk l[j + 1]
            · have e1 : zOne (prevK l (j + 1)) l[j + 1] = 0 := by unfold zOne; rw [if_pos ho]; exact if_pos c
              rw [if_pos e1, ← hp] at he
              refine ev_cong (fun k => if_pos (by rw [bl_pk]; exact c)) (ih (j + 1 + 1) (by omega) he)
            · have e1 : zOne (prevK l (j + 1)) l[j + 1] = 1 := by unfold zOne; rw [if_pos ho]; exact if_neg c
              rw [e1, if_neg (by omega)] at he
              rw [he, if_neg (by omega)]
              exact ev_is fun k => if_neg (by rw [bl_pk]; exact c)
      · have e1 : zOne (prevK l i) l[i] = zOwn l[i] := by unfold zOne; rw [if_neg ho]
        rw [e1, if_neg ho] at he
        rw [he, if_neg ho]
        exact ev_is fun k => if_neg ho
theorem spec_l0 (l : List ZZ) (hl : l.length ≤ 20) (r : Int) (hr : zFrom none l = 0 → Ev (fun k => spec_l2Fault.l0 k l (l.length : Int)) r) (d : Nat) : ∀ (i : Nat), i + d = l.length → (zFrom none l = zFrom (prevK l i) (l.drop i)) → Ev (fun k => spec_l2Fault.l0 k l (i : Int)) (if zFrom none l = 0 then r else zFrom none l) := by
  induction d with
  | zero =>
    intro i h he
    have e : i = l.length := by omega
    subst e
    rw [List.drop_length] at he
    have h0 : zFrom none l = 0 := he
    rw [if_pos h0]
    exact hr h0
  | succ d ih =>
    intro i h he
    have hi : i < l.length := by omega
    have hrd := rd_T44_at hi
    rw [drop_at hi, zFrom_cons] at he
    have hp : prevK l (i + 1) = some (pk l[i]) := by rw [prevK, hrd]
    refine ev_step (fun k => (spec_l1Fault.f k (l[i]).f0).bind fun t103 => (if t103 = 0 then spec_l2Fault.j1 k l (i : Int) (!zIn l[i]) else (some t103))) (fun k => ?_) (ev_call (fault_spec (l[i]).f0) ?_)
    · simp only [spec_l2Fault.l0]
      rw [if_pos (by omega), if_pos (by omega), hrd]
      refine congrArg (fun z => Option.bind _ z) (funext fun t => ?_)
      unfold spec_l2Data.f spec_l2Owner.f zIn
      rw [spec_l1In_is, spec_l1In_is, spec_l1In_is, spec_l1In_is]
      by_cases c0 : t = 0
      · rw [if_pos c0, if_pos c0]
        by_cases c1 : 0 ≤ (l[i]).f1 ∧ (l[i]).f1 ≤ 9999 <;> by_cases c2 : 0 ≤ (l[i]).f2 ∧ (l[i]).f2 ≤ 999 <;> by_cases c3 : 0 ≤ (l[i]).f3 ∧ (l[i]).f3 ≤ 9 <;> by_cases c4 : 0 ≤ (l[i]).f4 ∧ (l[i]).f4 ≤ 100 <;> simp [c1, c2, c3, c4]
      · rw [if_neg c0, if_neg c0]
    · by_cases hf : faultR (l[i]).f0 = 0
      · refine ev_cong (fun k => if_pos hf) ?_
        cases hz : zIn l[i] with
        | false =>
          have ho : zOwn l[i] = 3 := by unfold zOwn; rw [if_pos hf, if_neg (by simp [hz])]
          have e1 : zOne (prevK l i) l[i] = 3 := by unfold zOne; rw [if_neg (by omega), ho]
          rw [e1, if_neg (by omega)] at he
          rw [he, if_neg (by omega)]
          exact ev_done fun k => by simp only [spec_l2Fault.j1]; exact if_pos rfl
        | true =>
          have ho : zOwn l[i] = 0 := by unfold zOwn; rw [if_pos hf, if_pos hz]
          cases i with
          | zero =>
            have e1 : zOne (prevK l 0) l[0] = 0 := by unfold zOne; rw [if_pos ho]; rfl
            rw [if_pos e1, ← hp] at he
            refine ev_step (fun k => spec_l2Fault.l0 k l ((0 + 1 : Nat) : Int)) (fun k => ?_) (ih 1 (by omega) he)
            simp only [spec_l2Fault.j1]; rw [if_neg (by simp), if_neg (by omega), wrap_up hi (by omega)]
          | succ j =>
            have hj : j < l.length := by omega
            have wd := wrap_dn (i := j) (by omega)
            by_cases c : pk (rd_T44 l (j : Int)) < pk l[j + 1]
            · have e1 : zOne (prevK l (j + 1)) l[j + 1] = 0 := by unfold zOne; rw [if_pos ho]; exact if_pos c
              rw [if_pos e1, ← hp] at he
              refine ev_step (fun k => spec_l2Fault.l0 k l ((j + 1 + 1 : Nat) : Int)) (fun k => ?_) (ih (j + 1 + 1) (by omega) he)
              simp only [spec_l2Fault.j1]; rw [if_neg (by simp), if_pos (by omega), if_pos (by omega), if_pos (by omega), wd, if_pos (by omega), if_pos (by omega), if_pos (by rw [hrd, bl_pk]; exact c), wrap_up hi (by omega)]
            · have e1 : zOne (prevK l (j + 1)) l[j + 1] = 1 := by unfold zOne; rw [if_pos ho]; exact if_neg c
              rw [e1, if_neg (by omega)] at he
              rw [he, if_neg (by omega)]
              exact ev_done fun k => by simp only [spec_l2Fault.j1]; rw [if_neg (by simp), if_pos (by omega), if_pos (by omega), if_pos (by omega), wd, if_pos (by omega), if_pos (by omega), if_neg (by rw [hrd, bl_pk]; exact c)]
      · have ho : zOwn l[i] = faultR (l[i]).f0 := by unfold zOwn; rw [if_neg hf]
        have e1 : zOne (prevK l i) l[i] = zOwn l[i] := by unfold zOne; rw [if_neg (by rw [ho]; exact hf)]
        rw [e1, ho, if_neg hf] at he
        rw [he, if_neg hf]
        exact ev_is fun k => if_neg hf
/-- The parents, by the reference: they are there .. -/
theorem spec_l1_ (l : List ZZ) (hg : ∀ z ∈ l, zOwn z = 0) (hR : Rises pk l) (hl : l.length ≤ 20) (r : Int) (hr : l.all (upHere l) = true → Ev (fun k => spec_l2Fault.l2 k l 0) r) (d : Nat) : ∀ (i : Nat), i + d = l.length → (l.all (upHere l) = (l.drop i).all (upHere l)) → Ev (fun k => spec_l2Fault.l1 k l (i : Int)) (if l.all (upHere l) = true then r else 4) := by
  induction d with
  | zero =>
    intro i h he
    rw [drop_end (by omega)] at he
    have he' : l.all (upHere l) = true := he
    rw [if_pos he']
    refine ev_step _ (fun k => ?_) (hr he')
    simp only [spec_l2Fault.l1]; rw [if_neg (by omega)]
  | succ d ih =>
    intro i h he
    have hi : i < l.length := by omega
    have hrd := rd_T44_at hi
    rw [drop_at hi, List.all_cons] at he
    have hgi := zOwn_ok (hg _ (List.getElem_mem hi))
    refine ev_step (fun k => (spec_l1Parent.f k (l[i]).f0).bind fun t116 => ((spec_l2At.f k l t116).bind fun t117 => (if t117 < 0 then (some 4) else (spec_l2Fault.l1 k l ((i + 1 : Nat) : Int))))) (fun k => ?_) (ev_call (parent_is hgi.1) (ev_call (at_is hR (by omega) (upR (l[i]).f0)) ?_))
    · simp only [spec_l2Fault.l1]; rw [if_pos (by omega), if_pos (by omega), hrd, wrap_up hi (by omega)]
    · have e : hereK pk l (upR (l[i]).f0).data.toList = upHere l l[i] := rfl
      rw [e]
      cases c : upHere l l[i] with
      | true =>
        rw [c, Bool.true_and] at he
        exact ev_cong (fun k => if_neg (by rw [if_pos rfl]; omega)) (ih (i + 1) (by omega) he)
      | false =>
        rw [c, Bool.false_and] at he
        rw [he, if_neg (by simp)]
        exact ev_is fun k => if_pos (by simp)
/-- .. and nobody's. -/
theorem spec_l2_ (l : List ZZ) (hg : ∀ z ∈ l, zOwn z = 0) (hR : Rises pk l) (hl : l.length ≤ 20) (hA : l.all (upHere l) = true) (d : Nat) : ∀ (i : Nat), i + d = l.length → (l.any (upOwn l) = (l.drop i).any (upOwn l)) → Ev (fun k => spec_l2Fault.l2 k l (i : Int)) (if l.any (upOwn l) = true then 1 else 0) := by
  induction d with
  | zero =>
    intro i h he
    rw [drop_end (by omega)] at he
    have he' : l.any (upOwn l) = false := he
    rw [he', if_neg (by simp)]
    exact ev_done fun k => by simp only [spec_l2Fault.l2]; rw [if_neg (by omega)]
  | succ d ih =>
    intro i h he
    have hi : i < l.length := by omega
    have hrd := rd_T44_at hi
    rw [drop_at hi, List.any_cons] at he
    have hgi := zOwn_ok (hg _ (List.getElem_mem hi))
    have hh : hereK pk l (upR (l[i]).f0).data.toList = true := List.all_eq_true.1 hA _ (List.getElem_mem hi)
    have hp := hereK_lt hh
    have ho : upOwn l l[i] = !decide ((rd_T44 l (posK pk l (upR (l[i]).f0).data.toList : Int)).f3 = 0) := rfl
    refine ev_step (fun k => (spec_l1Parent.f k (l[i]).f0).bind fun t119 => ((spec_l2At.f k l t119).bind fun t120 => (if 0 ≤ t120 then (if t120 < (l.length : Int) then (if ((rd_T44 l t120).f3) = 0 then (spec_l2Fault.l2 k l ((i + 1 : Nat) : Int)) else (some 1)) else (none)) else (none)))) (fun k => ?_) (ev_call (parent_is hgi.1) (ev_call (at_is hR (by omega) (upR (l[i]).f0)) ?_))
    · simp only [spec_l2Fault.l2]; rw [if_pos (by omega), if_pos (by omega), hrd, wrap_up hi (by omega)]
    · rw [hh]
      generalize hP : posK pk l (upR (l[i]).f0).data.toList = P at hp ho
      refine ev_cong (f := fun k => (if ((rd_T44 l (P : Int)).f3) = 0 then (spec_l2Fault.l2 k l ((i + 1 : Nat) : Int)) else (some 1))) (fun k => ?_) ?_
      · rw [if_pos rfl, if_pos (by omega), if_pos (by omega)]
      · by_cases c : (rd_T44 l (P : Int)).f3 = 0
        · have : upOwn l l[i] = false := by rw [ho, decide_eq_true c]; rfl
          rw [this, Bool.false_or] at he
          exact ev_cong (fun k => if_pos c) (ih (i + 1) (by omega) he)
        · have : upOwn l l[i] = true := by rw [ho, decide_eq_false c]; rfl
          rw [this, Bool.true_or] at he
          rw [he, if_pos rfl]
          exact ev_is fun k => if_neg c
theorem treeR_spec (l : List ZZ) : Ev (fun k => spec_l2Fault.f k l) (treeR l) := by
  unfold spec_l2Fault.f treeR
  by_cases h : l.length > 20
  · rw [if_pos h]
    exact ev_is fun k => if_pos (by omega)
  · rw [if_neg h]
    refine ev_cong (fun k => if_neg (by omega)) (spec_l0 l (by omega) _ (fun hz => ?_) l.length 0 (by omega) rfl)
    obtain ⟨hg, hR, _⟩ := zFrom_ok l none hz
    refine ev_step (fun k => (spec_l2At.f k l (⟨#[47]⟩ : ByteArray)).bind fun t114 => (if t114 < 0 then (some 4) else (spec_l2Fault.l1 k l 0))) (fun k => ?_) (ev_call (at_is hR (by omega) (⟨#[47]⟩ : ByteArray)) ?_)
    · simp only [spec_l2Fault.l0]; rw [if_neg (by omega)]
    · have e : (⟨#[47]⟩ : ByteArray).data.toList = [47] := rfl
      rw [e]
      cases c : hereK pk l [47] with
      | false =>
        rw [if_neg (by simp)]
        exact ev_is fun k => if_pos (by simp)
      | true =>
        rw [if_pos rfl]
        refine ev_cong (fun k => if_neg (by omega)) (spec_l1_ l hg hR (by omega) _ (fun hA => ?_) l.length 0 (by omega) rfl)
        exact spec_l2_ l hg hR (by omega) hA l.length 0 (by omega) rfl
/-- The parents, by the program: all but the first node's. -/
theorem impl_l1_ (l m : List ZZ) (hm : ∀ z ∈ m, zOwn z = 0) (hR : Rises pk l) (hl : l.length ≤ 20) (hml : m.length ≤ 20) (d : Nat) : ∀ (i : Nat) (b : Bool), i + d = m.length → Ev (fun k => impl_TreeFault.l1 k l b m (m.length : Int) (i : Int)) (if (m.drop i).all (upHere l) = true then (if (b || (m.drop i).any (upOwn l)) = true then 1 else 0) else 4) := by
  induction d with
  | zero =>
    intro i b h
    rw [drop_end (by omega)]
    refine ev_done fun k => ?_
    simp only [impl_TreeFault.l1]
    rw [if_neg (by omega), List.all_nil, if_pos rfl, List.any_nil, Bool.or_false]
    cases b <;> rfl
  | succ d ih =>
    intro i b h
    have hi : i < m.length := by omega
    have hrd := rd_T44_at hi
    have hgi := zOwn_ok (hm _ (List.getElem_mem hi))
    rw [drop_at hi, List.all_cons, List.any_cons]
    refine ev_step (fun k => (impl_parted.f k (m[i]).f0).bind fun bt114 => ((impl_find.f k l bt114.1).bind fun bt116 => (if bt116.2 = true then (if b = true then (impl_TreeFault.l1 k l true m (m.length : Int) ((i + 1 : Nat) : Int)) else (if 0 ≤ bt116.1 then (if bt116.1 < (l.length : Int) then (impl_TreeFault.l1 k l (((rd_T44 l bt116.1).f3) != 0) m (m.length : Int) ((i + 1 : Nat) : Int)) else (none)) else (none))) else (some 4)))) (fun k => ?_) (ev_call (parted_is hgi.1) (ev_call (find_is hR (by omega) (upR (m[i]).f0)) ?_))
    · simp only [impl_TreeFault.l1]; rw [if_pos (by omega), if_pos (by omega), if_pos (by omega), hrd, wrap_up hi (by omega)]
    · have e : hereK pk l (upR (m[i]).f0).data.toList = upHere l m[i] := rfl
      have ho : upOwn l m[i] = !decide ((rd_T44 l (posK pk l (upR (m[i]).f0).data.toList : Int)).f3 = 0) := rfl
      have hp : upHere l m[i] = true → posK pk l (upR (m[i]).f0).data.toList < l.length := fun c => hereK_lt c
      generalize hP : posK pk l (upR (m[i]).f0).data.toList = P at ho hp
      rw [e]
      cases c : upHere l m[i] with
      | false =>
        rw [Bool.false_and, if_neg (by simp)]
        exact ev_is fun k => if_neg (by simp)
      | true =>
        have hp := hp c
        rw [Bool.true_and]
        cases b with
        | true =>
          have IH := ih (i + 1) true (by omega)
          rw [Bool.true_or] at IH ⊢
          exact ev_cong (fun k => (if_pos rfl).trans (if_pos rfl)) IH
        | false =>
          have e2 : (((rd_T44 l (P : Int)).f3) != 0) = upOwn l m[i] := by
            rw [ho]
            by_cases c2 : (rd_T44 l (P : Int)).f3 = 0
            · rw [decide_eq_true c2, c2]; rfl
            · rw [decide_eq_false c2]; exact bne_iff_ne.2 c2
          have IH := ih (i + 1) (upOwn l m[i]) (by omega)
          rw [Bool.false_or]
          refine ev_cong (fun k => ?_) IH
          rw [if_pos rfl, if_neg (by simp), if_pos (by show 0 ≤ (P : Int); omega), if_pos (by show (P : Int) < (l.length : Int); omega)]
          show impl_TreeFault.l1 k l (((rd_T44 l (P : Int)).f3) != 0) m (m.length : Int) ((i + 1 : Nat) : Int) = _
          rw [e2]
theorem treeR_impl (l : List ZZ) : Ev (fun k => impl_TreeFault.f k l) (treeR l) := by
  unfold impl_TreeFault.f treeR
  by_cases h : l.length > 20
  · rw [if_pos h]
    exact ev_is fun k => if_pos (by omega)
  · rw [if_neg h]
    refine ev_cong (fun k => if_neg (by omega)) (impl_l0 l (by omega) _ (fun hz => ?_) l.length 0 (by omega) rfl)
    obtain ⟨hg, hR, _⟩ := zFrom_ok l none hz
    refine ev_step (fun k => (impl_find.f k l (⟨#[47]⟩ : ByteArray)).bind fun bt105 => (if bt105.2 = true then (if 0 < (l.length : Int) then (if 1 ≤ (l.length : Int) then ((some (l.drop 1 : List ZZ)).bind fun y108 => (impl_TreeFault.l1 k l (((rd_T44 l 0).f3) != 0) y108 (y108.length : Int) 0)) else (none)) else (none)) else (some 4))) (fun k => ?_) (ev_call (find_is hR (by omega) (⟨#[47]⟩ : ByteArray)) ?_)
    · simp only [impl_TreeFault.l0]; rw [if_neg (by omega)]
    · have e : (⟨#[47]⟩ : ByteArray).data.toList = [47] := rfl
      rw [e]
      cases c : hereK pk l [47] with
      | false =>
        rw [if_neg (by simp)]
        exact ev_is fun k => if_neg (by simp)
      | true =>
        rw [if_pos rfl]
        have hp := hereK_lt c
        have h0 := top_first hg hR c
        have hlen : 0 < l.length := by omega
        have hk : pk l[0] = [47] := by
          have := hereK_eq c
          have g : ∀ (j : Nat) (hj : j < l.length), j = 0 → pk l[j] = [47] → pk l[0] = [47] := fun j hj e => by subst e; exact id
          exact g _ hp h0 this
        have hsplit : l = l[0] :: l.drop 1 := by
          have := drop_at hlen
          rwa [List.drop_zero] at this
        have hu : upR (l[0]).f0 = (⟨#[47]⟩ : ByteArray) := upR_top _ hk
        have hu0 : upHere l l[0] = true := by unfold upHere upK; rw [hu]; exact c
        have ho0 : upOwn l l[0] = (((rd_T44 l 0).f3) != 0) := by
          unfold upOwn upK
          rw [hu]
          have e3 : (⟨#[47]⟩ : ByteArray).data.toList = [47] := rfl
          rw [e3, h0]
          show (!decide ((rd_T44 l 0).f3 = 0)) = ((rd_T44 l 0).f3 != 0)
          by_cases c2 : (rd_T44 l 0).f3 = 0
          · rw [decide_eq_true c2, c2]; rfl
          · rw [decide_eq_false c2]; exact (bne_iff_ne.2 c2).symm
        have hall : l.all (upHere l) = (l.drop 1).all (upHere l) := by
          have g : ∀ m : List ZZ, m = l[0] :: l.drop 1 → m.all (upHere l) = (l.drop 1).all (upHere l) := fun m hm => by rw [hm, List.all_cons, hu0, Bool.true_and]
          exact g l hsplit
        have hany : l.any (upOwn l) = ((((rd_T44 l 0).f3) != 0) || (l.drop 1).any (upOwn l)) := by
          have g : ∀ m : List ZZ, m = l[0] :: l.drop 1 → m.any (upOwn l) = ((((rd_T44 l 0).f3) != 0) || (l.drop 1).any (upOwn l)) := fun m hm => by rw [hm, List.any_cons, ho0]
          exact g l hsplit
        rw [hall, hany]
        have := impl_l1_ l (l.drop 1) (fun z hz => hg z (List.mem_of_mem_drop hz)) hR (by omega) (by rw [List.length_drop]; omega) (l.drop 1).length 0 (((rd_T44 l 0).f3) != 0) (by omega)
        rw [List.drop_zero] at this
        refine ev_cong (fun k => ?_) this
        rw [if_pos rfl, if_pos (by omega), if_pos (by omega), Option.bind_some]
        rfl
end Go.Proofs.YtajlnffefoeppaaDoor.Pure

/- Nodes without those of owners: the program and the reference drop the same. -/
namespace Go.Proofs.YtajlnffefoeppaaDoor.Pure
open Go.RowKit Go.Proofs.YtajlnffefoeppaaDoor.Qa Go.Proofs.YtajlnffefoeppaaDoorW.PrintWords Go.Proofs.YtajlnffefoeppaaDoorW.PrintLast Go.Proofs.YtajlnffefoeppaaDoor.Aid
/-- Is a node one of theirs. -/
def goneB (ids : List Int) (z : ZZ) : Bool := decide (z.f3 ≠ 0) && decide (z.f3 ∈ ids)
def dropL (ids : List Int) (l : List ZZ) : List ZZ := l.filter fun z => !goneB ids z
theorem dropL_gone {ids : List Int} {z : ZZ} (l : List ZZ) (h : goneB ids z = true) : dropL ids (z :: l) = dropL ids l := by unfold dropL; rw [List.filter_cons_of_neg (by simp [h])]
theorem dropL_keep {ids : List Int} {z : ZZ} (l : List ZZ) (h : goneB ids z = false) : dropL ids (z :: l) = z :: dropL ids l := by unfold dropL; rw [List.filter_cons_of_pos (by simp [h])]
theorem dropL_len (ids : List Int) (l : List ZZ) : (dropL ids l).length ≤ l.length := List.length_filter_le _ _
theorem dropL_append (ids : List Int) (l m : List ZZ) : dropL ids (l ++ m) = dropL ids l ++ dropL ids m := List.filter_append ..
theorem own_step {x y : Int} {D : List Int} (h : ¬ x = 0) : (false || (decide (x ≠ 0) && decide (x ∈ y :: D))) = ((x == y) || (decide (x ≠ 0) && decide (x ∈ D))) := by
  by_cases e : x = y
  · subst e
    simp [h]
  · simp [e]
/-- One node asked, by the reference: the owners from one place on. -/
theorem drop_l1 {l : List ZZ} (hl : l.length ≤ 1000) (ids : List Int) (hi : ids.length ≤ 1000) (i : Nat) (hil : i < l.length) (out : List ZZ) (ho : out.length ≤ 1000) (R : List ZZ) (hg : ∀ b : Bool, b = goneB ids l[i] → Ev (fun k => spec_l4Drop.l0 k l ids (if b then out else out ++ [l[i]]) ((i + 1 : Nat) : Int)) R) (d : Nat) :
    ∀ (j : Nat) (b : Bool), j + d = ids.length → (goneB ids l[i] = (b || (decide (l[i].f3 ≠ 0) && decide (l[i].f3 ∈ ids.drop j)))) → Ev (fun k => spec_l4Drop.l1 k l ids out (i : Int) b (j : Int)) R := by
  have wi := wrap_up hil (by omega)
  have hrd := rd_T44_at hil
  induction d with
  | zero =>
    intro j b hj hb
    rw [drop_end (by omega)] at hb
    have hb' : b = goneB ids l[i] := by rw [hb]; simp
    have hR := hg b hb'
    cases b with
    | true =>
      rw [if_pos rfl] at hR
      refine ev_step (fun k => spec_l4Drop.l0 k l ids out ((i + 1 : Nat) : Int)) (fun k => ?_) hR
      simp only [spec_l4Drop.l1]
      rw [if_neg (by omega), if_pos trivial, wi]
    | false =>
      rw [if_neg (by decide)] at hR
      refine ev_step (fun k => spec_l4Drop.l0 k l ids (out ++ [l[i]]) ((i + 1 : Nat) : Int)) (fun k => ?_) hR
      simp only [spec_l4Drop.l1]
      rw [if_neg (by omega), if_neg (by decide), if_pos (by omega), if_pos (by omega), if_pos (by omega), wi, hrd]
  | succ d ih =>
    intro j b hj hb
    have hjl : j < ids.length := by omega
    have wj := wrap_up hjl (by omega)
    have hrj := rd_at hjl
    rw [drop_at hjl] at hb
    cases b with
    | true =>
      refine ev_step (fun k => spec_l4Drop.l1 k l ids out (i : Int) true ((j + 1 : Nat) : Int)) (fun k => ?_) (ih (j + 1) true (by omega) (by rw [hb]; simp))
      simp only [spec_l4Drop.l1]
      rw [if_pos (by omega), if_pos trivial, wj]
    | false =>
      by_cases h0 : l[i].f3 = 0
      · refine ev_step (fun k => spec_l4Drop.l1 k l ids out (i : Int) false ((j + 1 : Nat) : Int)) (fun k => ?_) (ih (j + 1) false (by omega) (by rw [hb]; simp [h0]))
        simp only [spec_l4Drop.l1]
        rw [if_pos (by omega), if_neg (by decide), if_pos (by omega), if_pos (by omega), hrd, if_pos h0, wj]
      · refine ev_step (fun k => spec_l4Drop.l1 k l ids out (i : Int) (l[i].f3 == ids[j]) ((j + 1 : Nat) : Int)) (fun k => ?_) (ih (j + 1) (l[i].f3 == ids[j]) (by omega) (hb.trans (own_step h0)))
        simp only [spec_l4Drop.l1]
        rw [if_pos (by omega), if_neg (by decide), if_pos (by omega), if_pos (by omega), hrd, if_neg h0, if_pos (by omega), hrj, wj]
theorem drop_l0 {l : List ZZ} (hl : l.length ≤ 1000) (ids : List Int) (hi : ids.length ≤ 1000) (d : Nat) : ∀ (i : Nat) (out : List ZZ), i + d = l.length → out.length ≤ i → Ev (fun k => spec_l4Drop.l0 k l ids out (i : Int)) (out ++ dropL ids (l.drop i)) := by
  induction d with
  | zero =>
    intro i out h ho
    rw [drop_end (by omega)]
    exact ev_done fun k => by simp only [spec_l4Drop.l0]; rw [if_neg (by omega)]; simp [dropL]
  | succ d ih =>
    intro i out h ho
    have hil : i < l.length := by omega
    refine ev_step (fun k => spec_l4Drop.l1 k l ids out (i : Int) false ((0 : Nat) : Int)) (fun k => by simp only [spec_l4Drop.l0]; rw [if_pos (by omega)]; rfl) ?_
    refine drop_l1 hl ids hi i hil out (by omega) _ (fun b hb => ?_) ids.length 0 false (by omega) (by rw [List.drop_zero]; simp [goneB])
    rw [drop_at hil]
    cases b with
    | true =>
      rw [if_pos rfl, dropL_gone _ hb.symm]
      exact ih (i + 1) out (by omega) (by omega)
    | false =>
      rw [if_neg (by decide), dropL_keep _ hb.symm]
      have := ih (i + 1) (out ++ [l[i]]) (by omega) (by simp; omega)
      rw [List.append_assoc] at this
      exact this
theorem drop_spec {l : List ZZ} (hl : l.length ≤ 1000) (ids : List Int) (hi : ids.length ≤ 1000) : Ev (fun k => spec_l4Drop.f k l ids) (dropL ids l) := by
  have := drop_l0 hl ids hi l.length 0 [] (by omega) (by simp)
  rw [List.drop_zero, List.nil_append] at this
  exact this
/-! ### the program's -/
theorem index_l0 (l : List Int) (v : Int) (hl : l.length ≤ 1000) (d : Nat) : ∀ (i : Nat), i + d = l.length → ∃ r : Int, Ev (fun k => slices_Index_int64_int64.l0 k l v (l.length : Int) (i : Int)) r ∧ (decide (r ≥ 0) = decide (v ∈ l.drop i)) := by
  induction d with
  | zero =>
    intro i h
    rw [drop_end (by omega)]
    exact ⟨-1, ev_done fun k => by simp only [slices_Index_int64_int64.l0]; rw [if_neg (by omega)], by simp⟩
  | succ d ih =>
    intro i h
    have hi : i < l.length := by omega
    rw [drop_at hi]
    by_cases e : v = l[i]
    · refine ⟨i, ev_done fun k => ?_, by rw [decide_eq_true (show v ∈ l[i] :: l.drop (i + 1) by rw [← e]; simp)]; simp⟩
      simp only [slices_Index_int64_int64.l0]
      rw [if_pos (by omega), if_pos (by omega), if_pos (by omega), rd_at hi, if_pos e]
    · obtain ⟨r, hr, q⟩ := ih (i + 1) (by omega)
      refine ⟨r, ev_step (fun k => slices_Index_int64_int64.l0 k l v (l.length : Int) ((i + 1 : Nat) : Int)) (fun k => ?_) hr, by rw [q]; exact decide_eq_decide.2 (by rw [List.mem_cons]; exact ⟨.inr, fun c => c.resolve_left e⟩)⟩
      simp only [slices_Index_int64_int64.l0]
      rw [if_pos (by omega), if_pos (by omega), if_pos (by omega), rd_at hi, if_neg e, wrap_up hi (by omega)]
theorem has_is (l : List Int) (v : Int) (hl : l.length ≤ 1000) : Ev (fun k => slices_Contains_int64_int64.f k l v) (decide (v ∈ l)) := by
  obtain ⟨r, hr, q⟩ := index_l0 l v hl l.length 0 (by omega)
  rw [List.drop_zero] at q
  unfold slices_Contains_int64_int64.f slices_Index_int64_int64.f
  rw [← q]
  exact ev_call hr (Ev.now _)
theorem gone_is (ids : List Int) (hi : ids.length ≤ 1000) (z : ZZ) : Ev (fun k => impl_dropOwned_1.f k z.f0 z.f1 z.f2 z.f3 z.f4 ids) (goneB ids z) := by
  unfold impl_dropOwned_1.f goneB
  by_cases h : z.f3 = 0
  · exact ev_is fun k => by rw [if_pos h]; simp [h]
  · refine ev_cong (fun k => if_neg h) (ev_call (has_is ids z.f3 hi) (ev_is fun k => ?_))
    simp [h]
/-- The first of theirs. -/
theorem first_l0 {l : List ZZ} (hl : l.length ≤ 1000) (ids : List Int) (hi : ids.length ≤ 1000) (d : Nat) : ∀ (i : Nat), i + d = l.length → (∀ z ∈ l.take i, goneB ids z = false) →
    ∃ r : Int, Ev (fun k => slices_IndexFunc_impl_Znode_impl_Znode.l0 k l ids (l.length : Int) (i : Int)) r ∧ ((r = -1 ∧ ∀ z ∈ l, goneB ids z = false) ∨ ∃ (j : Nat) (hj : j < l.length), r = (j : Int) ∧ goneB ids l[j] = true ∧ ∀ z ∈ l.take j, goneB ids z = false) := by
  induction d with
  | zero =>
    intro i h hk
    refine ⟨-1, ev_done fun k => by simp only [slices_IndexFunc_impl_Znode_impl_Znode.l0]; rw [if_neg (by omega)], .inl ⟨rfl, ?_⟩⟩
    rwa [List.take_of_length_le (by omega)] at hk
  | succ d ih =>
    intro i h hk
    have hil : i < l.length := by omega
    have hrd := rd_T44_at hil
    have hg := gone_is ids hi l[i]
    have st : ∀ k, slices_IndexFunc_impl_Znode_impl_Znode.l0 (k + 1) l ids (l.length : Int) (i : Int) = (impl_dropOwned_1.f k l[i].f0 l[i].f1 l[i].f2 l[i].f3 l[i].f4 ids).bind fun t => if t = true then some (i : Int) else slices_IndexFunc_impl_Znode_impl_Znode.l0 k l ids (l.length : Int) ((i + 1 : Nat) : Int) := fun k => by
      simp only [slices_IndexFunc_impl_Znode_impl_Znode.l0]
      rw [if_pos (by omega), if_pos (by omega), if_pos (by omega), hrd, wrap_up hil (by omega)]
    cases c : goneB ids l[i] with
    | true =>
      rw [c] at hg
      exact ⟨i, ev_step _ st (ev_call hg (ev_is fun k => if_pos rfl)), .inr ⟨i, hil, rfl, c, hk⟩⟩
    | false =>
      rw [c] at hg
      obtain ⟨r, hr, q⟩ := ih (i + 1) (by omega) (fun z hz => by
        rw [List.take_succ_eq_append_getElem hil] at hz
        rcases List.mem_append.1 hz with hz | hz
        · exact hk z hz
        · rw [List.mem_singleton] at hz; rw [hz]; exact c)
      exact ⟨r, ev_step _ st (ev_call hg (ev_cong (fun k => if_neg (by decide)) hr)), q⟩
theorem keep_all {ids : List Int} : ∀ {l : List ZZ}, (∀ z ∈ l, goneB ids z = false) → dropL ids l = l
  | [], _ => rfl
  | z :: l, h => by rw [dropL_keep _ (h z (by simp)), keep_all (fun x hx => h x (List.mem_cons_of_mem _ hx))]
theorem take_drop {ids : List Int} {l : List ZZ} {j : Nat} (hj : j < l.length) : dropL ids (l.take (j + 1)) = dropL ids (l.take j) ++ dropL ids [l[j]] := by
  rw [List.take_succ_eq_append_getElem hj, dropL_append]
theorem del_l0 {l : List ZZ} (hl : l.length ≤ 1000) (ids : List Int) (hi : ids.length ≤ 1000) (d : Nat) : ∀ (i j : Nat) (m : List ZZ), j + d = l.length → i < j → m.length = l.length → m.take i = dropL ids (l.take j) → m.drop j = l.drop j →
    Ev (fun k => slices_DeleteFunc_impl_Znode_impl_Znode.l0 k m ids (i : Int) (j : Int)) (dropL ids l) := by
  induction d with
  | zero =>
    intro i j m h hij hm ht hd
    rw [List.take_of_length_le (show l.length ≤ j by omega)] at ht
    refine ev_done fun k => ?_
    simp only [slices_DeleteFunc_impl_Znode_impl_Znode.l0]
    rw [if_neg (by omega), if_pos (by omega), if_pos (by omega), if_pos (by omega), Int.toNat_natCast, ht]
  | succ d ih =>
    intro i j m h hij hm ht hd
    have hjl : j < l.length := by omega
    have hjm : j < m.length := by omega
    have hmj : m[j] = l[j] := by
      rw [drop_at hjl, drop_at hjm] at hd
      exact (List.cons.inj hd).1
    have hd2 : m.drop (j + 1) = l.drop (j + 1) := by
      rw [drop_at hjl, drop_at hjm] at hd
      exact (List.cons.inj hd).2
    have hrd := rd_T44_at hjm
    have wj := wrap_up hjm (by omega)
    have hg := gone_is ids hi m[j]
    cases c : goneB ids m[j] with
    | true =>
      rw [c] at hg
      refine ev_step (fun k => (impl_dropOwned_1.f k m[j].f0 m[j].f1 m[j].f2 m[j].f3 m[j].f4 ids).bind fun t => if t = true then slices_DeleteFunc_impl_Znode_impl_Znode.l0 k m ids (i : Int) ((j + 1 : Nat) : Int) else (if 0 ≤ (i : Int) then (if (i : Int) < (m.length : Int) then slices_DeleteFunc_impl_Znode_impl_Znode.l0 k (m.set i m[j]) ids (wrap64 ((i : Int) + 1)) ((j + 1 : Nat) : Int) else none) else none)) (fun k => ?_) (ev_call hg (ev_cong (fun k => if_pos rfl) (ih i (j + 1) m (by omega) (by omega) hm ?_ hd2)))
      · simp only [slices_DeleteFunc_impl_Znode_impl_Znode.l0]
        rw [if_pos (by omega), if_pos (by omega), hrd, wj, Int.toNat_natCast]
      · rw [take_drop hjl, ← hmj, dropL_gone _ c, ht]
        simp [dropL]
    | false =>
      rw [c] at hg
      have him : i < m.length := by omega
      have wi := wrap_up him (by omega)
      refine ev_step (fun k => (impl_dropOwned_1.f k m[j].f0 m[j].f1 m[j].f2 m[j].f3 m[j].f4 ids).bind fun t => if t = true then slices_DeleteFunc_impl_Znode_impl_Znode.l0 k m ids (i : Int) ((j + 1 : Nat) : Int) else (if 0 ≤ (i : Int) then (if (i : Int) < (m.length : Int) then slices_DeleteFunc_impl_Znode_impl_Znode.l0 k (m.set i m[j]) ids (wrap64 ((i : Int) + 1)) ((j + 1 : Nat) : Int) else none) else none)) (fun k => ?_) (ev_call hg (ev_cong (fun k => (if_neg (by decide)).trans ((if_pos (by omega)).trans (if_pos (by omega)))) ?_))
      · simp only [slices_DeleteFunc_impl_Znode_impl_Znode.l0]
        rw [if_pos (by omega), if_pos (by omega), hrd, wj, Int.toNat_natCast]
      · rw [wi]
        refine ih (i + 1) (j + 1) (m.set i m[j]) (by omega) (by omega) (by rw [List.length_set]; exact hm) ?_ ?_
        · rw [take_set_snoc him, ht, take_drop hjl, ← hmj, dropL_keep _ c]
          rfl
        · rw [List.drop_set_of_lt (by omega)]
          exact hd2
theorem clone_drop (l : List ZZ) (hl : l.length ≤ 1048576000) : slices_Clone_impl_Znode_impl_Znode.f l = some l := by
  unfold slices_Clone_impl_Znode_impl_Znode.f
  simp only [Option.bind_some, List.nil_append, List.length_nil, Nat.zero_add]
  rw [if_pos (by omega)]
theorem drop_impl {l : List ZZ} (hl : l.length ≤ 1000) (ids : List Int) (hi : ids.length ≤ 1000) : Ev (fun k => impl_dropOwned.f k l ids) (dropL ids l) := by
  obtain ⟨r, hr, q⟩ := first_l0 hl ids hi l.length 0 (by omega) (by simp)
  unfold impl_dropOwned.f
  refine ev_cong (fun k => by rw [clone_drop l (by omega), Option.bind_some]) (ev_call (a := dropL ids l) ?_ (Ev.now _))
  unfold slices_DeleteFunc_impl_Znode_impl_Znode.f slices_IndexFunc_impl_Znode_impl_Znode.f
  refine ev_call hr ?_
  rcases q with ⟨rfl, hk⟩ | ⟨j, hj, rfl, hc, hk⟩
  · rw [keep_all hk]
    exact ev_is fun k => if_pos rfl
  · refine ev_cong (fun k => if_neg (by omega)) ?_
    rw [wrap_up hj (by omega)]
    refine del_l0 hl ids hi (l.length - (j + 1)) j (j + 1) l (by omega) (by omega) rfl ?_ rfl
    rw [take_drop hj, dropL_gone _ hc, keep_all hk]
    simp [dropL]
end Go.Proofs.YtajlnffefoeppaaDoor.Pure

/- Answers that hold nodes. -/

namespace Go.Proofs.YtajlnffefoeppaaDoor.Pure
open Go.RowKit Go.Proofs.YtajlnffefoeppaaDoor.Qa Go.Proofs.YtajlnffefoeppaaDoorW.PrintWords Go.Proofs.YtajlnffefoeppaaDoorW.PrintLast Go.Proofs.YtajlnffefoeppaaDoor.Aid
abbrev ZR := Int × ByteArray × List ZZ
def badZ (c : Int) : ZR := (c, (⟨#[]⟩ : ByteArray), [])
end Go.Proofs.YtajlnffefoeppaaDoor.Pure

/- Owners' nodes dropped: the program and the reference answer alike. -/
namespace Go.Proofs.YtajlnffefoeppaaDoor.Pure
open Go.RowKit Go.Proofs.YtajlnffefoeppaaDoor.Qa Go.Proofs.YtajlnffefoeppaaDoorW.PrintWords Go.Proofs.YtajlnffefoeppaaDoorW.PrintLast Go.Proofs.YtajlnffefoeppaaDoor.Aid
noncomputable def dropR (l : List ZZ) (ids : List Int) : ZR := if treeR l = 0 then (if ids.length > 9 then badZ 2 else (0, (⟨#[]⟩ : ByteArray), dropL ids l)) else badZ (treeR l)
theorem bad_is (c : Int) : spec_l2Bad.f c = some (c, (⟨#[]⟩ : ByteArray), ([] : List ZZ)) := rfl
theorem DropOwned_spec (l : List ZZ) (ids : List Int) : Ev (fun k => spec_DropOwned.f k l ids) (dropR l ids) := by
  unfold spec_DropOwned.f dropR
  refine ev_call (treeR_spec l) ?_
  by_cases h : treeR l = 0
  · rw [if_pos h]
    have hf := (right_of h).few
    by_cases h9 : ids.length > 9
    · rw [if_pos h9]
      exact ev_is fun k => (if_pos h).trans ((if_pos (by omega)).trans (by rw [bad_is]; rfl))
    · rw [if_neg h9]
      exact ev_cong (fun k => (if_pos h).trans (if_neg (by omega))) (ev_call (drop_spec (by omega) ids (by omega)) (Ev.now _))
  · rw [if_neg h]
    exact ev_is fun k => (if_neg h).trans (by rw [bad_is]; rfl)
theorem DropOwned_impl (l : List ZZ) (ids : List Int) : Ev (fun k => impl_DropOwned.f k l ids) (dropR l ids) := by
  unfold impl_DropOwned.f dropR
  refine ev_call (treeR_impl l) ?_
  by_cases h : treeR l = 0
  · rw [if_pos h]
    have hf := (right_of h).few
    by_cases h9 : ids.length > 9
    · rw [if_pos h9]
      exact ev_is fun k => (if_pos h).trans (if_pos (by omega))
    · rw [if_neg h9]
      exact ev_cong (fun k => (if_pos h).trans (if_neg (by omega))) (ev_call (drop_impl (by omega) ids (by omega)) (Ev.now _))
  · rw [if_neg h]
    exact ev_is fun k => if_neg h
theorem dropR_len (l : List ZZ) (ids : List Int) : (dropR l ids).2.2.length ≤ l.length := by
  unfold dropR badZ
  split
  · split
    · simp
    · exact dropL_len ids l
  · simp
end Go.Proofs.YtajlnffefoeppaaDoor.Pure

/- The code of a tree and a path, by the program. -/
namespace Go.Proofs.YtajlnffefoeppaaDoor.Pure
open Go.RowKit Go.Proofs.YtajlnffefoeppaaDoor.Qa Go.Proofs.YtajlnffefoeppaaDoorW.PrintWords Go.Proofs.YtajlnffefoeppaaDoorW.PrintLast Go.Proofs.YtajlnffefoeppaaDoor.Aid
noncomputable def askT (l : List ZZ) (q : ByteArray) : Int := if treeR l = 0 then faultR q else treeR l
theorem askT_impl (l : List ZZ) (q : ByteArray) : Ev (fun k => impl_zCode.f k l q) (askT l q) := by
  unfold impl_zCode.f askT
  refine ev_call (treeR_impl l) ?_
  by_cases h : treeR l = 0
  · rw [if_pos h]
    exact ev_cong (fun k => if_pos h) (ev_call (fault_impl q) (Ev.now _))
  · rw [if_neg h]
    exact ev_is fun k => if_neg h
theorem askT_ok {l : List ZZ} {q : ByteArray} (h : askT l q = 0) : RightT l ∧ faultR q = 0 ∧ treeR l = 0 := by
  unfold askT at h
  by_cases h1 : treeR l = 0
  · rw [if_pos h1] at h
    exact ⟨right_of h1, h, h1⟩
  · rw [if_neg h1] at h; exact absurd h h1
end Go.Proofs.YtajlnffefoeppaaDoor.Pure

/- A node told, by the program. -/
namespace Go.Proofs.YtajlnffefoeppaaDoor.Pure
open Go.RowKit Go.Proofs.YtajlnffefoeppaaDoor.Qa Go.Proofs.YtajlnffefoeppaaDoorW.PrintWords Go.Proofs.YtajlnffefoeppaaDoorW.PrintLast Go.Proofs.YtajlnffefoeppaaDoor.Aid
noncomputable def getR (l : List ZZ) (q : ByteArray) : ZR := if askT l q = 0 then (if hereK pk l q.data.toList = true then (0, (⟨#[]⟩ : ByteArray), [rd_T44 l (posK pk l q.data.toList : Int)]) else badZ 4) else badZ (askT l q)
theorem GetZ_impl (l : List ZZ) (q : ByteArray) : Ev (fun k => impl_GetZ.f k l q) (getR l q) := by
  unfold impl_GetZ.f getR
  refine ev_call (askT_impl l q) ?_
  by_cases h : askT l q = 0
  · rw [if_pos h]
    obtain ⟨hR, _, _⟩ := askT_ok h
    have hf := hR.few
    refine ev_cong (fun k => if_pos h) (ev_call (find_is hR.rise (by omega) q) (ev_is fun k => ?_))
    cases c : hereK pk l q.data.toList with
    | true =>
      have hp := hereK_lt c
      rw [if_pos rfl, if_pos rfl, if_pos (by show 0 ≤ (posK pk l q.data.toList : Int); omega), if_pos (by show (posK pk l q.data.toList : Int) < (l.length : Int); omega)]
    | false => rw [if_neg (by simp), if_neg (by simp)]; rfl
  · rw [if_neg h]
    exact ev_is fun k => if_neg h
theorem getR_len (l : List ZZ) (q : ByteArray) : (getR l q).2.2.length ≤ 1 := by
  unfold getR badZ
  split
  · split <;> simp
  · simp
end Go.Proofs.YtajlnffefoeppaaDoor.Pure

/- The draws' numbers: they answer, whatever the code, within what is asked. -/
namespace Go.Proofs.YtajlnffefoeppaaDoor.Pure
open Go.RowKit Go.Proofs.YtajlnffefoeppaaDoor.Qa Go.Proofs.YtajlnffefoeppaaDoorW.PrintWords Go.Proofs.YtajlnffefoeppaaDoorW.PrintLast Go.Proofs.YtajlnffefoeppaaDoor.Aid
/-- A code that is drawn from. -/
structure CodeT (c : List Int) : Prop where
  byte : ∀ y ∈ c, 0 ≤ y ∧ y ≤ 255
  len : c.length ≤ 1048576
theorem next_is {c : List Int} (hc : CodeT c) (a n : Int) (h0 : 0 ≤ a) (h1 : a ≤ 1000000) (n0 : 1 ≤ n) (n1 : n ≤ 1000000) : ∃ r : Int, spec_l1Next.f c a n = some (r, a + 1) ∧ 0 ≤ r ∧ r < n := by
  have w1 : wrap64 (a + 1) = a + 1 := wrap_id (by omega) (by omega)
  have w2 : wrap64 (a + 1 - 1) = a := by rw [wrap_id (by omega) (by omega)]; omega
  have a1 : ¬ n < 1 := by omega
  have a2 : ¬ n = 0 := by omega
  have hl := hc.len
  unfold spec_l1Next.f
  rw [if_neg a1, w1, w2]
  by_cases hk : (c.length : Int) = 0
  · have w3 : wrap64 (a * 7) = a * 7 := wrap_id (by omega) (by omega)
    rw [if_pos hk, if_neg a2, w3]
    exact ⟨_, rfl, Int.tmod_nonneg _ (by omega), Int.tmod_lt_of_pos _ (by omega)⟩
  · have hp : (0 : Int) < (c.length : Int) := by omega
    have t0 : 0 ≤ Int.tmod a (c.length : Int) := Int.tmod_nonneg _ h0
    have t1 : Int.tmod a (c.length : Int) < (c.length : Int) := Int.tmod_lt_of_pos _ hp
    have u0 : 0 ≤ Int.tmod (a + 1) (c.length : Int) := Int.tmod_nonneg _ (by omega)
    have u1 : Int.tmod (a + 1) (c.length : Int) < (c.length : Int) := Int.tmod_lt_of_pos _ hp
    have t2 : Int.tdiv a (c.length : Int) = a / (c.length : Int) := Int.tdiv_eq_ediv_of_nonneg h0
    have t3 : 0 ≤ a / (c.length : Int) := Int.ediv_nonneg h0 (by omega)
    have t4 : a / (c.length : Int) ≤ a := Int.ediv_le_self _ h0
    rw [if_neg hk, if_pos t0, if_pos t1, t2]
    obtain ⟨j, hj⟩ : ∃ j : Nat, Int.tmod a (c.length : Int) = (j : Int) := ⟨(Int.tmod a (c.length : Int)).toNat, by omega⟩
    obtain ⟨j2, hj2⟩ : ∃ j2 : Nat, Int.tmod (a + 1) (c.length : Int) = (j2 : Int) := ⟨(Int.tmod (a + 1) (c.length : Int)).toNat, by omega⟩
    rw [hj2] at u0 u1
    rw [hj] at t1
    rw [w1, hj2, hj]
    have hjl : j < c.length := by omega
    have hjl2 : j2 < c.length := by omega
    rw [rd_at hjl, rd_at hjl2, if_pos u0, if_pos u1, if_neg a2, if_neg a2]
    obtain ⟨b0, b1⟩ := hc.byte c[j] (List.getElem_mem hjl)
    obtain ⟨d0, d1⟩ := hc.byte c[j2] (List.getElem_mem hjl2)
    generalize c[j] = v at b0 b1 ⊢
    generalize c[j2] = x at d0 d1 ⊢
    generalize a / (c.length : Int) = q at t3 t4 ⊢
    have w3 : wrap64 q = q := wrap_id (by omega) (by omega)
    have w4 : wrap64 (q * 37) = q * 37 := wrap_id (by omega) (by omega)
    have w5 : wrap64 v = v := wrap_id (by omega) (by omega)
    have w6 : wrap64 (v + q * 37) = v + q * 37 := wrap_id (by omega) (by omega)
    have w7 : wrap64 ((v + q * 37) * 251) = (v + q * 37) * 251 := wrap_id (by omega) (by omega)
    have w8 : wrap64 x = x := wrap_id (by omega) (by omega)
    have w9 : wrap64 (x * 13) = x * 13 := wrap_id (by omega) (by omega)
    have w10 : wrap64 ((v + q * 37) * 251 + x * 13) = (v + q * 37) * 251 + x * 13 := wrap_id (by omega) (by omega)
    have w11 : wrap64 ((v + q * 37) * 251 + x * 13 + a) = (v + q * 37) * 251 + x * 13 + a := wrap_id (by omega) (by omega)
    rw [w3, w4, w5, w6, w7, w8, w9, w10, w11]
    by_cases a3 : n > 200
    · rw [if_pos a3]
      exact ⟨_, rfl, Int.tmod_nonneg _ (by omega), Int.tmod_lt_of_pos _ (by omega)⟩
    · rw [if_neg a3]
      exact ⟨_, rfl, Int.tmod_nonneg _ (by omega), Int.tmod_lt_of_pos _ (by omega)⟩
theorem pick_is {c : List Int} (hc : CodeT c) (a : Int) (l : List Int) (h0 : 0 ≤ a) (h1 : a ≤ 1000000) (n0 : 1 ≤ l.length) (n1 : l.length ≤ 1000) : ∃ r : Int, spec_l1Pick.f c a l = some (r, a + 1) ∧ r ∈ l := by
  obtain ⟨r, hr, r0, r1⟩ := next_is hc a (l.length : Int) h0 h1 (by omega) (by omega)
  obtain ⟨j, rfl⟩ : ∃ j : Nat, r = (j : Int) := ⟨r.toNat, by omega⟩
  have hj : j < l.length := by omega
  refine ⟨l[j], ?_, List.getElem_mem hj⟩
  unfold spec_l1Pick.f
  rw [hr, Option.bind_some, if_pos r0, if_pos r1, rd_at hj]
theorem code_of {c : List Int} (h : c.length ≤ 9223372036854775807 ∧ ∀ y_ ∈ c, (Lit.int .u8 y_).wf = true) (hb : ¬ (c.length : Int) > 1048576) : CodeT c := by
  refine ⟨fun y hy => ?_, by omega⟩
  have h' : (decide (IntKind.u8.min ≤ y) && decide (y ≤ IntKind.u8.max)) = true := h.2 y hy
  simp only [Bool.and_eq_true, decide_eq_true_eq] at h'
  exact h'
end Go.Proofs.YtajlnffefoeppaaDoor.Pure

/- The draws' chances. -/
namespace Go.Proofs.YtajlnffefoeppaaDoor.Pure
open Go.RowKit Go.Proofs.YtajlnffefoeppaaDoor.Qa Go.Proofs.YtajlnffefoeppaaDoorW.PrintWords Go.Proofs.YtajlnffefoeppaaDoorW.PrintLast Go.Proofs.YtajlnffefoeppaaDoor.Aid
theorem chance_is {c : List Int} (hc : CodeT c) (a n : Int) (h0 : 0 ≤ a) (h1 : a ≤ 1000000) (n0 : 1 ≤ n) (n1 : n ≤ 1000000) : ∃ b : Bool, spec_l1Chance.f c a n = some (b, a + 1) := by
  obtain ⟨r, hr, _⟩ := next_is hc a n h0 h1 n0 n1
  exact ⟨_, by unfold spec_l1Chance.f; rw [hr, Option.bind_some]⟩
end Go.Proofs.YtajlnffefoeppaaDoor.Pure

/- When a tree is right: told by its members. -/
namespace Go.Proofs.YtajlnffefoeppaaDoor.Pure
open Go.RowKit Go.Proofs.YtajlnffefoeppaaDoor.Qa Go.Proofs.YtajlnffefoeppaaDoorW.PrintWords Go.Proofs.YtajlnffefoeppaaDoorW.PrintLast Go.Proofs.YtajlnffefoeppaaDoor.Aid
theorem zFrom_of : ∀ (l : List ZZ) (prev : Option (List UInt8)), (∀ z ∈ l, zOwn z = 0) → Rises pk l → (∀ p, prev = some p → ∀ z ∈ l, p < pk z) → zFrom prev l = 0
  | [], _, _, _, _ => rfl
  | z :: r, prev, h1, h2, h3 => by
    obtain ⟨g1, g2⟩ := List.pairwise_cons.1 h2
    have ho : zOne prev z = 0 := by
      unfold zOne
      rw [if_pos (h1 z (by simp))]
      cases prev with
      | none => rfl
      | some p => exact if_pos (h3 p rfl z (by simp))
    rw [zFrom_cons, if_pos ho]
    exact zFrom_of r (some (pk z)) (fun x hx => h1 x (List.mem_cons_of_mem _ hx)) g2 (fun p hp x hx => by cases hp; exact g1 x hx)
theorem RightT.code {l : List ZZ} (h : RightT l) : treeR l = 0 := h.zero (zFrom_of l none h.good h.rise (fun p hp => by cases hp))
theorem at_of {l : List ZZ} (hr : Rises pk l) {y : ZZ} (hy : y ∈ l) : rd_T44 l (posK pk l (pk y) : Int) = y := by
  obtain ⟨j, hj, rfl⟩ := List.getElem_of_mem hy
  rw [(hereK_at hr j hj).1, rd_T44_at hj]
theorem mem_of_here {l : List ZZ} {q : List UInt8} (h : hereK pk l q = true) : ∃ y ∈ l, pk y = q := ⟨l[posK pk l q]'(hereK_lt h), List.getElem_mem _, hereK_eq h⟩
theorem same_key {l : List ZZ} (hr : Rises pk l) {x y : ZZ} (hx : x ∈ l) (hy : y ∈ l) (e : pk x = pk y) : x = y := by
  have h1 := at_of hr hx
  rw [e, at_of hr hy] at h1
  exact h1.symm
/-- A right tree, by its members. -/
structure TreeM (l : List ZZ) : Prop where
  few : l.length ≤ 20
  good : ∀ z ∈ l, zOwn z = 0
  rise : Rises pk l
  top : ∃ z ∈ l, pk z = [47]
  ups : ∀ z ∈ l, ∃ y ∈ l, pk y = upK z ∧ y.f3 = 0
theorem TreeM.of {l : List ZZ} (h : RightT l) : TreeM l := by
  refine ⟨h.few, h.good, h.rise, mem_of_here h.top, fun z hz => ?_⟩
  obtain ⟨y, hy, e⟩ := mem_of_here (h.ups z hz)
  refine ⟨y, hy, e, ?_⟩
  have := h.free z hz
  unfold upOwn at this
  rw [← e, at_of h.rise hy] at this
  simpa using this
theorem TreeM.right {l : List ZZ} (h : TreeM l) : RightT l := by
  refine ⟨h.few, h.good, h.rise, ?_, fun z hz => ?_, fun z hz => ?_⟩
  · obtain ⟨y, hy, e⟩ := h.top
    rw [← e]
    exact hereK_mem h.rise hy
  · obtain ⟨y, hy, e, _⟩ := h.ups z hz
    unfold upHere
    rw [← e]
    exact hereK_mem h.rise hy
  · obtain ⟨y, hy, e, h0⟩ := h.ups z hz
    unfold upOwn
    rw [← e, at_of h.rise hy, h0]
    rfl
theorem TreeM.code {l : List ZZ} (h : TreeM l) : treeR l = 0 := h.right.code
theorem tree_m {l : List ZZ} (h : treeR l = 0) : TreeM l := TreeM.of (right_of h)
/-- The top owns nothing. -/
theorem TreeM.top_free {l : List ZZ} (h : TreeM l) {z : ZZ} (hz : z ∈ l) (e : pk z = [47]) : z.f3 = 0 := by
  obtain ⟨y, hy, e2, h0⟩ := h.ups z hz
  have : upK z = [47] := by unfold upK; rw [upR_top z.f0 e]
  rw [this] at e2
  rw [same_key h.rise hz hy (by rw [e, e2])]
  exact h0
/-- What is there, and what is not. -/
theorem here_iff {l : List ZZ} (hr : Rises pk l) (q : List UInt8) : hereK pk l q = true ↔ ∃ y ∈ l, pk y = q := ⟨mem_of_here, fun ⟨y, hy, e⟩ => by rw [← e]; exact hereK_mem hr hy⟩
end Go.Proofs.YtajlnffefoeppaaDoor.Pure

/- A row of nodes copied, by the reference. -/
namespace Go.Proofs.YtajlnffefoeppaaDoor.Pure
open Go.RowKit Go.Proofs.YtajlnffefoeppaaDoor.Qa Go.Proofs.YtajlnffefoeppaaDoorW.PrintWords Go.Proofs.YtajlnffefoeppaaDoorW.PrintLast Go.Proofs.YtajlnffefoeppaaDoor.Aid
theorem copy_spec (l : List ZZ) (hl : l.length ≤ 1048576000) : spec_l2Copy.f l = some l := by
  unfold spec_l2Copy.f
  simp only [Option.bind_some, List.nil_append, List.length_nil, Nat.zero_add]
  rw [if_pos (by omega)]
end Go.Proofs.YtajlnffefoeppaaDoor.Pure

/- A node's data set in a right tree, by the reference. -/
namespace Go.Proofs.YtajlnffefoeppaaDoor.Pure
open Go.RowKit Go.Proofs.YtajlnffefoeppaaDoor.Qa Go.Proofs.YtajlnffefoeppaaDoorW.PrintWords Go.Proofs.YtajlnffefoeppaaDoorW.PrintLast Go.Proofs.YtajlnffefoeppaaDoor.Aid
def putD (l : List ZZ) (i : Int) (d : Int) : List ZZ := l.set i.toNat (⟨(rd_T44 l i).f0, d, (rd_T44 l i).f2, (rd_T44 l i).f3, (rd_T44 l i).f4⟩ : ZZ)
def putV (l : List ZZ) (i : Int) : List ZZ := l.set i.toNat (⟨(rd_T44 l i).f0, (rd_T44 l i).f1, wrap64 (((rd_T44 l i).f2) + 1), (rd_T44 l i).f3, (rd_T44 l i).f4⟩ : ZZ)
def setAt (l : List ZZ) (p : Nat) (d v : Int) : ZR :=
  if v = -1 ∨ v = (rd_T44 l (p : Int)).f2 then (if (rd_T44 l (p : Int)).f2 = 999 then badZ 2 else (0, (⟨#[]⟩ : ByteArray), putV (putD l (p : Int) d) (p : Int))) else badZ 7
noncomputable def setIn (l : List ZZ) (q : ByteArray) (d v : Int) : ZR :=
  if 0 ≤ d ∧ d ≤ 9999 then (if hereK pk l q.data.toList = true then setAt l (posK pk l q.data.toList) d v else badZ 4) else badZ 3
theorem ver_le {l : List ZZ} (hg : ∀ z ∈ l, zOwn z = 0) {p : Nat} (hp : p < l.length) : 0 ≤ (rd_T44 l (p : Int)).f2 ∧ (rd_T44 l (p : Int)).f2 ≤ 999 := by
  rw [rd_T44_at hp]
  have := (zOwn_ok (hg _ (List.getElem_mem hp))).2
  unfold zIn at this
  simp only [Bool.and_eq_true, decide_eq_true_eq] at this
  exact this.2.1
theorem set_j0 {l : List ZZ} (hg : ∀ z ∈ l, zOwn z = 0) (hl : l.length ≤ 20) {p : Nat} (hp : p < l.length) (d v : Int) (b : Bool) (hb : b = true ↔ ¬ (v = -1 ∨ v = (rd_T44 l (p : Int)).f2)) : Ev (fun k => spec_l2Set.j0 k l d (p : Int) b) (setAt l p d v) := by
  have hv := ver_le hg hp
  unfold setAt
  cases b with
  | true =>
    rw [if_neg (hb.1 rfl)]
    exact ev_done fun k => by simp only [spec_l2Set.j0]; rw [if_pos trivial]; rfl
  | false =>
    have hn : v = -1 ∨ v = (rd_T44 l (p : Int)).f2 := Decidable.byContradiction fun c => by have := hb.2 c; cases this
    rw [if_pos hn]
    refine ev_done fun k => ?_
    simp only [spec_l2Set.j0]
    rw [if_neg (by simp), if_pos (by omega), if_pos (by omega), copy_spec l (by omega)]
    by_cases c : (rd_T44 l (p : Int)).f2 = 999
    · rw [if_pos (by omega), if_pos c]; rfl
    · rw [if_neg (by omega), if_neg c, Option.bind_some, if_pos (by omega)]; rfl
theorem set_in_spec {l : List ZZ} (hg : ∀ z ∈ l, zOwn z = 0) (hl : l.length ≤ 20) (hr : Rises pk l) (q : ByteArray) (d v : Int) : Ev (fun k => spec_l2Set.f k l q d v) (setIn l q d v) := by
  unfold spec_l2Set.f spec_l2Data.f setIn
  rw [spec_l1In_is]
  simp only [Option.bind_some]
  by_cases h1 : 0 ≤ d ∧ d ≤ 9999
  · rw [if_pos h1]
    refine ev_cong (fun k => if_pos (decide_eq_true h1)) (ev_call (at_is hr (by omega) q) ?_)
    cases c : hereK pk l q.data.toList with
    | false =>
      rw [if_neg (by simp), if_neg (by simp)]
      exact ev_is fun k => if_pos (by omega)
    | true =>
      have hp := hereK_lt c
      rw [if_pos rfl, if_pos rfl]
      generalize posK pk l q.data.toList = p at hp
      refine ev_cong (fun k => if_neg (by omega)) ?_
      by_cases h2 : v = -1
      · exact ev_cong (fun k => if_pos h2) (set_j0 hg hl hp d v false ⟨fun h => by simp at h, fun h => absurd (.inl h2) h⟩)
      · refine ev_cong (fun k => (if_neg h2).trans ((if_pos (by omega)).trans (if_pos (by omega)))) (set_j0 hg hl hp d v _ ⟨fun h => ?_, fun h => ?_⟩)
        · have := bne_iff_ne.1 h
          rintro (h3 | h3)
          · exact h2 h3
          · exact this h3
        · exact bne_iff_ne.2 fun h3 => h (.inr h3)
  · rw [if_neg h1]
    exact ev_is fun k => (if_neg (by simpa using h1)).trans rfl
end Go.Proofs.YtajlnffefoeppaaDoor.Pure

/- A name with a number behind it, by the reference. -/
namespace Go.Proofs.YtajlnffefoeppaaDoor.Pure
open Go.RowKit Go.Proofs.YtajlnffefoeppaaDoor.Qa Go.Proofs.YtajlnffefoeppaaDoorW.PrintWords Go.Proofs.YtajlnffefoeppaaDoorW.PrintLast Go.Proofs.YtajlnffefoeppaaDoor.Aid
def twoN (n : Int) : List Int := [(wrap64 (48 + (wrap64 (Int.tdiv n 10)))) % 256, (wrap64 (48 + (Int.tmod n 10))) % 256]
def seqT (s : ByteArray) (n : Int) : ByteArray := s ++ strOfNums (twoN n)
def seqR (s : ByteArray) (n : Int) : Int × ByteArray := if nameB s then (if 0 ≤ n ∧ n ≤ 99 then (if nameB (seqT s n) then (0, seqT s n) else (5, ⟨#[]⟩)) else (3, ⟨#[]⟩)) else (5, ⟨#[]⟩)
theorem strOfNums_two (a b : Int) : strOfNums [a] ++ strOfNums [b] = strOfNums [a, b] := by
  unfold strOfNums
  apply ByteArray.ext
  simp
theorem digit (d : Int) (h0 : 0 ≤ d) (h1 : d < 10) : Ev (fun k => spec_l1Digits.f k d) (strOfNums [(wrap64 (48 + d)) % 256]) :=
  ev_done fun k => by simp only [spec_l1Digits.f]; rw [if_neg (by omega), if_pos h1]
theorem tdiv10 {n : Int} (h : 0 ≤ n ∧ n ≤ 99) : wrap64 (Int.tdiv n 10) = n / 10 ∧ Int.tmod n 10 = n % 10 := by
  have h1 : Int.tdiv n 10 = n / 10 := Int.tdiv_eq_ediv_of_nonneg h.1
  have h2 : Int.tmod n 10 = n % 10 := Int.tmod_eq_emod_of_nonneg h.1
  rw [h1, h2, wrap_id (by omega) (by omega)]
  exact ⟨rfl, rfl⟩
theorem seq_spec (s : ByteArray) (n : Int) (hs : s.size ≤ 1048576) (hn : 0 ≤ n ∧ n ≤ 99) : Ev (fun k => spec_l1Seq.f k s n) (seqT s n) := by
  obtain ⟨e1, e2⟩ := tdiv10 hn
  unfold spec_l1Seq.f
  have e : seqT s n = (s ++ strOfNums [(wrap64 (48 + (wrap64 (Int.tdiv n 10)))) % 256]) ++ strOfNums [(wrap64 (48 + (Int.tmod n 10))) % 256] := by
    unfold seqT twoN
    rw [ByteArray.append_assoc, strOfNums_two]
  rw [e]
  refine ev_call (digit (wrap64 (Int.tdiv n 10)) (by rw [e1]; omega) (by rw [e1]; omega)) (ev_cong (fun k => if_pos (by rw [size_strOfNums]; simp; omega)) ?_)
  refine ev_call (digit (Int.tmod n 10) (by rw [e2]; omega) (by rw [e2]; omega)) (ev_is fun k => if_pos (by rw [ByteArray.size_append, size_strOfNums, size_strOfNums]; simp; omega))
theorem seqT_size (s : ByteArray) (n : Int) : (seqT s n).size = s.size + 2 := by
  unfold seqT twoN
  rw [ByteArray.size_append, size_strOfNums]
  rfl
end Go.Proofs.YtajlnffefoeppaaDoor.Pure

/- A path joined, by the reference. -/
namespace Go.Proofs.YtajlnffefoeppaaDoor.Pure
open Go.RowKit Go.Proofs.YtajlnffefoeppaaDoor.Qa Go.Proofs.YtajlnffefoeppaaDoorW.PrintWords Go.Proofs.YtajlnffefoeppaaDoorW.PrintLast Go.Proofs.YtajlnffefoeppaaDoor.Aid
def joinR (s n : ByteArray) : ByteArray := if s.data.toList = [47] then s ++ n else (s ++ (⟨#[47]⟩ : ByteArray)) ++ n
theorem cat_size (s n : ByteArray) : (s ++ n).size = s.size + n.size := ByteArray.size_append
theorem join_spec (s n : ByteArray) (hs : s.size ≤ 24) (hn : n.size ≤ 1048576) : spec_l1Join.f s n = some (joinR s n) := by
  unfold spec_l1Join.f joinR
  rw [tl, cat_size]
  have e1 : (⟨#[47]⟩ : ByteArray).size = 1 := rfl
  by_cases h : s.data.toList = [47]
  · have e : s = (⟨#[47]⟩ : ByteArray) := eq_mk h
    rw [if_pos h, if_pos h, if_pos (by omega), e]
  · rw [if_neg h, if_neg h, if_pos (by omega), if_pos (by omega)]
end Go.Proofs.YtajlnffefoeppaaDoor.Pure

/- A node put to a right tree, by the reference. -/
namespace Go.Proofs.YtajlnffefoeppaaDoor.Pure
open Go.RowKit Go.Proofs.YtajlnffefoeppaaDoor.Qa Go.Proofs.YtajlnffefoeppaaDoorW.PrintWords Go.Proofs.YtajlnffefoeppaaDoorW.PrintLast Go.Proofs.YtajlnffefoeppaaDoor.Aid
theorem ev_one {α : Type} {g : Nat → Option α} {a b : α} (h : Ev g a) (k : Ev g b) : a = b := by
  obtain ⟨n, hn⟩ := h
  obtain ⟨m, hm⟩ := k
  have h1 := hn (n + m) (by omega)
  have h2 := hm (n + m) (by omega)
  rw [h1] at h2
  exact Option.some.inj h2
theorem splF_tail (l : List UInt8) : ∀ (P : List UInt8) (p : Nat) (hp : p < l.length), l[p] = 47 → (∀ (j : Nat) (hj : j < l.length), p < j → l[j] ≠ 47) → l.drop (p + 1) ∈ (splF P l).drop 1 := by
  induction l with
  | nil => intro P p hp; simp at hp
  | cons c t ih =>
    intro P p hp h1 h2
    unfold splF
    by_cases hc : c = 47
    · rw [if_pos hc, List.drop_succ_cons, List.drop_zero]
      cases p with
      | zero =>
        have h0 : t.count 47 = 0 := List.count_eq_zero.2 fun hm => by
          obtain ⟨j, hj, e⟩ := List.getElem_of_mem hm
          exact h2 (j + 1) (by simpa using hj) (by omega) (by simpa using e)
        rw [splF_none t [] h0]
        simp
      | succ p =>
        have := ih [] p (by simpa using hp) (by simpa using h1) (fun j hj hlt => by
          have := h2 (j + 1) (by simpa using hj) (by omega)
          rwa [List.getElem_cons_succ] at this)
        rw [List.drop_succ_cons]
        exact List.mem_of_mem_drop this
    · rw [if_neg hc]
      cases p with
      | zero => exact absurd (by simpa using h1) hc
      | succ p =>
        have := ih (P ++ [c]) p (by simpa using hp) (by simpa using h1) (fun j hj hlt => by
          have := h2 (j + 1) (by simpa using hj) (by omega)
          rwa [List.getElem_cons_succ] at this)
        rw [List.drop_succ_cons]
        exact this
theorem nm_name {s : ByteArray} (h : faultR s = 0) (ht : s.data.toList ≠ [47]) : nameB (nmR s) = true := by
  have hl := size_list s
  obtain ⟨hs, h2⟩ := fault_zero h
  rcases h2 with h2 | ⟨_, h3, h4⟩
  · exact absurd h2 ht
  · have hall : ((pieces s).drop 1).all nameB = true := by
      have hn : (namesR s).2 = true := by rw [h3]
      unfold namesR at hn
      rw [if_neg ht] at hn
      by_cases c1 : (pieces s).length < 2
      · rw [if_pos c1] at hn; cases hn
      · rw [if_neg c1] at hn
        by_cases c2 : (headR s).data.toList = []
        · rw [if_pos c2] at hn
          by_cases c3 : ((pieces s).drop 1).all nameB = true
          · exact c3
          · rw [if_neg c3] at hn; cases hn
        · rw [if_neg c2] at hn; cases hn
    obtain ⟨_, p, _, h7, _, h9⟩ := upN_spec h
    obtain ⟨p', hp', e1, e2⟩ := last_exists _ h4
    have h10 : Ev (fun k => spec_l1Last.f k s) (p' : Int) := last_spec_l0 s hs p' hp' e1 e2 s.size 0 0 (by omega) (fun h => by omega)
    have e : p = p' := by have := ev_one h9 h10; omega
    subst e
    have hm := splF_tail s.data.toList [] p hp' e1 e2
    refine List.all_eq_true.1 hall _ ?_
    have e3 : nmR s = mkB (s.data.toList.drop (p + 1)) := by
      rw [h7, ext_mk, List.take_of_length_le (by rw [List.length_drop]; omega)]
    rw [e3]
    unfold pieces
    rw [← List.map_drop]
    exact List.mem_map.2 ⟨_, hm, rfl⟩

/-! ### a list whose keys are those of another one -/
theorem posK_map {α : Type} (key : α → List UInt8) (l : List α) (q : List UInt8) : posK key l q = ((l.map key).takeWhile (fun x => decide (x < q))).length := by
  unfold posK
  rw [List.takeWhile_map, List.length_map]
  rfl
theorem hereK_map {α : Type} (key : α → List UInt8) (l : List α) (q : List UInt8) : hereK key l q = (match (l.map key)[posK key l q]? with
    | some x => decide (x = q)
    | none => false) := by
  unfold hereK
  rw [List.getElem?_map]
  cases l[posK key l q]? <;> rfl
theorem same_keys {α : Type} {key : α → List UInt8} {l m : List α} (h : l.map key = m.map key) (q : List UInt8) : posK key l q = posK key m q ∧ hereK key l q = hereK key m q := by
  have e : posK key l q = posK key m q := by rw [posK_map, posK_map, h]
  exact ⟨e, by rw [hereK_map, hereK_map, h, e]⟩
theorem same_rise {α : Type} {key : α → List UInt8} {l m : List α} (h : l.map key = m.map key) (hr : Rises key l) : Rises key m := by
  have : (l.map key).Pairwise (· < ·) := List.pairwise_map.2 hr
  rw [h] at this
  exact List.pairwise_map.1 this
theorem set_keys {α : Type} {key : α → List UInt8} {l : List α} {i : Nat} (hi : i < l.length) {z : α} (hz : key z = key l[i]) : (l.set i z).map key = l.map key := by
  apply List.ext_getElem
  · simp
  · intro j h1 h2
    rw [List.getElem_map, List.getElem_map, List.getElem_set]
    by_cases c : i = j
    · subst c; rw [if_pos rfl, hz]
    · rw [if_neg c]

def insAt (l : List ZZ) (p : Nat) (z : ZZ) : List ZZ := l.take p ++ [z] ++ l.drop p
noncomputable def makeR (l : List ZZ) (q : ByteArray) (d o : Int) : ZR :=
  if hereK pk l q.data.toList = true then badZ 6 else if l.length = 20 then badZ 2 else (0, q, insAt l (posK pk l q.data.toList) ⟨q, d, 0, o, 0⟩)
def nextUp (l : List ZZ) (i : Int) : List ZZ := l.set i.toNat (⟨(rd_T44 l i).f0, (rd_T44 l i).f1, (rd_T44 l i).f2, (rd_T44 l i).f3, wrap64 (((rd_T44 l i).f4) + 1)⟩ : ZZ)
theorem nextUp_keys (l : List ZZ) (p : Nat) (hp : p < l.length) : (nextUp l (p : Int)).map pk = l.map pk := by
  unfold nextUp
  rw [Int.toNat_natCast]
  refine set_keys hp ?_
  rw [rd_T44_at hp]
  rfl
theorem nextUp_len (l : List ZZ) (i : Int) : (nextUp l i).length = l.length := by unfold nextUp; rw [List.length_set]
theorem put_l0 {l : List ZZ} (hr : Rises pk l) (hl : l.length ≤ 20) (z : ZZ) (d : Nat) : ∀ (i : Nat), i + d = l.length → i ≤ posK pk l (pk z) → Ev (fun k => spec_l2Put.l0 k l (i : Int) z.f0 z.f1 z.f2 z.f3 z.f4) (insAt l (posK pk l (pk z)) z) := by
  have fin : ∀ i : Nat, i ≤ l.length → (i < l.length → ¬ pk (rd_T44 l (i : Int)) < pk z) → Ev (fun k => spec_l2Put.l0 k l (i : Int) z.f0 z.f1 z.f2 z.f3 z.f4) (insAt l i z) := by
    intro i hi hn
    have ht : (l.take i).length ≤ 20 := by rw [List.length_take]; omega
    have hd : (l.drop i).length ≤ 20 := by rw [List.length_drop]; omega
    refine ev_done fun k => ?_
    simp only [spec_l2Put.l0, Option.bind_some, List.nil_append, List.length_nil, Nat.zero_add, Int.toNat_natCast]
    by_cases c : i < l.length
    · have hb : ¬ Op.bytesLess (((rd_T44 l (i : Int)).f0).toList) z.f0.toList = true := by rw [bl_pk]; exact hn c
      rw [if_pos (by omega), if_pos (by omega), if_neg hb, if_pos (by omega), if_pos (by omega), if_pos (by omega), if_pos (by rw [List.length_append, List.length_singleton]; omega)]
      rfl
    · rw [if_neg (by omega), if_pos (by omega), if_pos (by omega), if_pos (by omega), if_pos (by omega), if_pos (by rw [List.length_append, List.length_singleton]; omega)]
      rfl
  induction d with
  | zero =>
    intro i h hp
    have e : i = posK pk l (pk z) := by have := posK_le pk l (pk z); omega
    rw [← e]
    exact fin i (by omega) (fun c => by omega)
  | succ d ih =>
    intro i h hp
    have hi : i < l.length := by omega
    have hrd := rd_T44_at hi
    by_cases c : pk l[i] < pk z
    · refine ev_step (fun k => spec_l2Put.l0 k l ((i + 1 : Nat) : Int) z.f0 z.f1 z.f2 z.f3 z.f4) (fun k => ?_) (ih (i + 1) (by omega) ((posK_iff hr _ i hi).1 c))
      have hb : Op.bytesLess (((rd_T44 l (i : Int)).f0).toList) z.f0.toList = true := by rw [bl_pk, hrd]; exact c
      simp only [spec_l2Put.l0]; rw [if_pos (by omega), if_pos (by omega), if_pos hb, wrap_up hi (by omega)]
    · have e : i = posK pk l (pk z) := by have := (not_congr (posK_iff hr _ i hi)).1 c; omega
      rw [← e]
      exact fin i (by omega) (fun _ => by rw [hrd]; exact c)
theorem put_is {l : List ZZ} (hr : Rises pk l) (hl : l.length ≤ 20) (z : ZZ) : Ev (fun k => spec_l2Put.f k l z.f0 z.f1 z.f2 z.f3 z.f4) (insAt l (posK pk l (pk z)) z) := put_l0 hr hl z l.length 0 (by omega) (Nat.zero_le _)
theorem make_spec {l m : List ZZ} (hk : l.map pk = m.map pk) (hr : Rises pk l) (hl : l.length ≤ 20) (q : ByteArray) (d o : Int) : Ev (fun k => spec_l2Create.j1 k l q d o m) (makeR m q d o) := by
  have hlm : m.length = l.length := by have := congrArg List.length hk; simpa using this.symm
  obtain ⟨e1, e2⟩ := same_keys hk q.data.toList
  unfold makeR
  refine ev_step _ (fun k => by simp only [spec_l2Create.j1]; rfl) (ev_call (at_is hr (by omega) q) ?_)
  rw [e1, e2]
  cases c : hereK pk m q.data.toList with
  | true =>
    rw [if_pos rfl, if_pos rfl]
    exact ev_is fun k => if_pos (by omega)
  | false =>
    rw [if_neg (by simp), if_neg (by simp)]
    refine ev_cong (fun k => if_neg (by omega)) ?_
    by_cases c2 : m.length = 20
    · rw [if_pos c2]
      exact ev_is fun k => if_pos (by omega)
    · rw [if_neg c2]
      exact ev_cong (fun k => if_neg (by omega)) (ev_call (put_is (same_rise hk hr) (by omega) (⟨q, d, 0, o, 0⟩ : ZZ)) (Ev.now _))
noncomputable def createUp (l : List ZZ) (q : ByteArray) (p : Nat) (d o : Int) (b : Bool) : ZR :=
  if b = true then (if (rd_T44 l (p : Int)).f4 = 100 then badZ 3 else
    (if nameB (seqT (nmR q) (rd_T44 l (p : Int)).f4) = true then
      (if faultR (joinR (upR q) (seqT (nmR q) (rd_T44 l (p : Int)).f4)) = 0 then makeR (nextUp l (p : Int)) (joinR (upR q) (seqT (nmR q) (rd_T44 l (p : Int)).f4)) d o else badZ (faultR (joinR (upR q) (seqT (nmR q) (rd_T44 l (p : Int)).f4))))
      else badZ 5)) else makeR l q d o
noncomputable def createIn (l : List ZZ) (q : ByteArray) (d o : Int) (b : Bool) : ZR :=
  if (0 ≤ d ∧ d ≤ 9999) ∧ (0 ≤ o ∧ o ≤ 9) then (if q.data.toList = [47] then badZ 1 else
    (if hereK pk l (upR q).data.toList = true then
      (if (rd_T44 l (posK pk l (upR q).data.toList : Int)).f3 = 0 then createUp l q (posK pk l (upR q).data.toList) d o b else badZ 8) else badZ 4)) else badZ 3
theorem next_le {l : List ZZ} (hg : ∀ z ∈ l, zOwn z = 0) {p : Nat} (hp : p < l.length) : 0 ≤ (rd_T44 l (p : Int)).f4 ∧ (rd_T44 l (p : Int)).f4 ≤ 100 := by
  rw [rd_T44_at hp]
  have := (zOwn_ok (hg _ (List.getElem_mem hp))).2
  unfold zIn at this
  simp only [Bool.and_eq_true, decide_eq_true_eq] at this
  exact this.2.2.2
set_option maxHeartbeats 1000000 in
theorem create_j0_spec {l : List ZZ} (hg : ∀ z ∈ l, zOwn z = 0) (hr : Rises pk l) (hl : l.length ≤ 20) {q : ByteArray} (hq : faultR q = 0) (d o : Int) (b : Bool) (hdo : (0 ≤ d ∧ d ≤ 9999) ∧ (0 ≤ o ∧ o ≤ 9)) : Ev (fun k => spec_l2Create.j0 k l q d o b false) (createIn l q d o b) := by
  have hsz := upR_size hq
  unfold createIn
  rw [if_pos hdo]
  by_cases h1 : q.data.toList = [47]
  · rw [if_pos h1]
    exact ev_done fun k => by simp only [spec_l2Create.j0]; rw [if_neg (by simp), if_pos (by rw [tl]; exact h1)]; rfl
  · rw [if_neg h1]
    refine ev_step _ (fun k => by simp only [spec_l2Create.j0]; rw [if_neg (by simp), if_neg (by rw [tl]; exact h1)]) (ev_call (parent_is hq) (ev_call (at_is hr (by omega) (upR q)) ?_))
    cases c : hereK pk l (upR q).data.toList with
    | false =>
      rw [if_neg (by simp), if_neg (by simp)]
      exact ev_is fun k => if_pos (by omega)
    | true =>
      have hp := hereK_lt c
      rw [if_pos rfl, if_pos rfl]
      generalize posK pk l (upR q).data.toList = p at hp
      refine ev_cong (fun k => (if_neg (by omega)).trans ((if_pos (by omega)).trans (if_pos (by omega)))) ?_
      by_cases c2 : (rd_T44 l (p : Int)).f3 = 0
      · rw [if_pos c2]
        refine ev_cong (fun k => if_pos c2) (ev_call (ev_is fun _ => copy_spec l (by omega)) ?_)
        unfold createUp
        cases b with
        | false =>
          rw [if_neg (by simp)]
          exact ev_cong (fun k => if_neg (by simp)) (make_spec rfl hr hl q d o)
        | true =>
          rw [if_pos rfl]
          refine ev_cong (fun k => if_pos rfl) ?_
          have hn := next_le hg hp
          by_cases c3 : (rd_T44 l (p : Int)).f4 = 100
          · rw [if_pos c3]
            exact ev_is fun k => if_pos (by omega)
          · rw [if_neg c3]
            obtain ⟨_, m, h6, h7, _, h9⟩ := upN_spec hq
            have hq24 := (path_mark hq).1
            have hseq := seq_spec (nmR q) (rd_T44 l (p : Int)).f4 (by omega) (by omega)
            have hsl := seqT_size (nmR q) (rd_T44 l (p : Int)).f4
            generalize hS : seqT (nmR q) (rd_T44 l (p : Int)).f4 = S at hseq hsl
            refine ev_cong (fun k => if_neg (by omega)) (ev_call h9 ?_)
            rw [h7] at hseq
            refine ev_cong (f := fun k => (spec_l1Seq.f k (q.extract (m + 1) q.size) (rd_T44 l (p : Int)).f4).bind fun t137 => ((spec_l1Name.f k t137).bind fun t138 => (if t138 = true then ((spec_l1Parent.f k q).bind fun t144 => ((spec_l1Seq.f k (q.extract (m + 1) q.size) (rd_T44 l (p : Int)).f4).bind fun t145 => ((spec_l1Join.f t144 t145).bind fun t146 => ((spec_l1Fault.f k t146).bind fun t147 => (if t147 = 0 then (if (p : Int) < (l.length : Int) then (spec_l2Create.j1 k l t146 d o (nextUp l (p : Int))) else (none)) else ((spec_l2Bad.f t147).bind fun bt149 => (some (bt149.1, bt149.2.1, bt149.2.2)))))))) else ((spec_l2Bad.f 5).bind fun bt139 => (some (bt139.1, bt139.2.1, bt139.2.2)))))) (fun k => ?_) ?_
            · have b1 : (0 : Int) ≤ ((m + 1 : Nat) : Int) := by omega
              have b2 : ((m + 1 : Nat) : Int) ≤ (q.size : Int) := by omega
              have wm := w_up m (by omega)
              rw [wm, if_pos b1, if_pos b2, Int.toNat_natCast]; rfl
            · refine ev_call hseq (ev_call (name_spec S (by omega)) ?_)
              by_cases c4 : nameB S = true
              · rw [if_pos c4]
                refine ev_cong (fun k => if_pos c4) (ev_call (parent_is hq) (ev_call hseq (ev_call (ev_is fun _ => join_spec (upR q) S hsz.1 (by omega)) (ev_call (fault_spec _) ?_))))
                by_cases c5 : faultR (joinR (upR q) S) = 0
                · rw [if_pos c5]
                  exact ev_cong (fun k => (if_pos c5).trans (if_pos (by omega))) (make_spec (nextUp_keys l p hp).symm hr hl _ d o)
                · rw [if_neg c5]
                  exact ev_is fun k => if_neg c5
              · rw [if_neg c4]
                exact ev_is fun k => if_neg c4
      · rw [if_neg c2]
        exact ev_is fun k => if_neg c2
theorem create_in_spec {l : List ZZ} (hg : ∀ z ∈ l, zOwn z = 0) (hr : Rises pk l) (hl : l.length ≤ 20) {q : ByteArray} (hq : faultR q = 0) (d o : Int) (b : Bool) : Ev (fun k => spec_l2Create.f k l q d o b) (createIn l q d o b) := by
  unfold spec_l2Create.f spec_l2Data.f spec_l2Owner.f
  rw [spec_l1In_is, spec_l1In_is]
  simp only [Option.bind_some]
  by_cases h1 : 0 ≤ d ∧ d ≤ 9999
  · refine ev_cong (fun k => if_pos (decide_eq_true h1)) ?_
    by_cases h2 : 0 ≤ o ∧ o ≤ 9
    · rw [decide_eq_true h2]
      exact create_j0_spec hg hr hl hq d o b ⟨h1, h2⟩
    · rw [decide_eq_false h2]
      unfold createIn
      rw [if_neg (fun h => h2 h.2)]
      exact ev_done fun k => by simp only [spec_l2Create.j0]; rw [if_pos (by simp)]; rfl
  · refine ev_cong (fun k => if_neg (by simpa using h1)) ?_
    unfold createIn
    rw [if_neg (fun h => h1 h.1)]
    exact ev_done fun k => by simp only [spec_l2Create.j0]; rw [if_pos trivial]; rfl
theorem makeR_len (l : List ZZ) (q : ByteArray) (d o : Int) : (makeR l q d o).2.2.length ≤ l.length + 1 := by
  unfold makeR badZ
  split
  · simp
  · split
    · simp
    · show (insAt l _ _).length ≤ _
      unfold insAt
      rw [List.length_append, List.length_append, List.length_take, List.length_drop, List.length_singleton]
      omega
end Go.Proofs.YtajlnffefoeppaaDoor.Pure

/- The names of kids, by the reference. -/
namespace Go.Proofs.YtajlnffefoeppaaDoor.Pure
open Go.RowKit Go.Proofs.YtajlnffefoeppaaDoor.Qa Go.Proofs.YtajlnffefoeppaaDoorW.PrintWords Go.Proofs.YtajlnffefoeppaaDoorW.PrintLast Go.Proofs.YtajlnffefoeppaaDoor.Aid
noncomputable def kidsL (q : ByteArray) : List ZZ → List ByteArray
  | [] => []
  | z :: r => if pk z = [47] then kidsL q r else if (upR z.f0).data.toList = q.data.toList then nmR z.f0 :: kidsL q r else kidsL q r
theorem kidsL_cons (q : ByteArray) (z : ZZ) (r : List ZZ) : kidsL q (z :: r) = if pk z = [47] then kidsL q r else if (upR z.f0).data.toList = q.data.toList then nmR z.f0 :: kidsL q r else kidsL q r := rfl
theorem kidsL_len (q : ByteArray) : ∀ l : List ZZ, (kidsL q l).length ≤ l.length
  | [] => Nat.le_refl _
  | z :: r => by
    have := kidsL_len q r
    rw [kidsL_cons, List.length_cons]
    split
    · omega
    · split
      · rw [List.length_cons]; omega
      · omega
theorem kids_spec_l0 {l : List ZZ} (hg : ∀ z ∈ l, zOwn z = 0) (hl : l.length ≤ 20) (q : ByteArray) (d : Nat) : ∀ (i : Nat) (out : List ByteArray), i + d = l.length → out.length ≤ i → Ev (fun k => spec_l2Kids.l0 k l q out (i : Int)) (out ++ kidsL q (l.drop i)) := by
  induction d with
  | zero =>
    intro i out h ho
    rw [drop_end (by omega)]
    exact ev_done fun k => by simp only [spec_l2Kids.l0]; rw [if_neg (by omega)]; simp [kidsL]
  | succ d ih =>
    intro i out h ho
    have hi : i < l.length := by omega
    have hrd := rd_T44_at hi
    have wi := wrap_up hi (by omega)
    obtain ⟨hf, _⟩ := zOwn_ok (hg _ (List.getElem_mem hi))
    rw [drop_at hi, kidsL_cons]
    by_cases c : pk l[i] = [47]
    · rw [if_pos c]
      refine ev_step (fun k => spec_l2Kids.l0 k l q out ((i + 1 : Nat) : Int)) (fun k => ?_) (ih (i + 1) out (by omega) (by omega))
      simp only [spec_l2Kids.l0]; rw [if_pos (by omega), if_pos (by omega), hrd, if_pos (show (l[i]).f0.toList = [47] by rw [tl]; exact c), wi]
    · rw [if_neg c]
      refine ev_step (fun k => (spec_l1Parent.f k (l[i]).f0).bind fun t105 => (if t105.toList = q.toList then ((spec_l1Last.f k (l[i]).f0).bind fun t106 => (if 0 ≤ (wrap64 (t106 + 1)) then (if (wrap64 (t106 + 1)) ≤ ((l[i]).f0.size : Int) then (if out.length < 8796093022208 then (spec_l2Kids.l0 k l q (out ++ [((l[i]).f0).extract ((wrap64 (t106 + 1)) : Int).toNat (l[i]).f0.size]) ((i + 1 : Nat) : Int)) else (none)) else (none)) else (none))) else (spec_l2Kids.l0 k l q out ((i + 1 : Nat) : Int)))) (fun k => ?_) (ev_call (parent_is hf) ?_)
      · simp only [spec_l2Kids.l0]; rw [if_pos (by omega), if_pos (by omega), hrd, if_neg (show ¬ (l[i]).f0.toList = [47] by rw [tl]; exact c), wi]
      · by_cases c2 : (upR (l[i]).f0).data.toList = q.data.toList
        · rw [if_pos c2]
          obtain ⟨_, p, h6, h7, _, h9⟩ := upN_spec hf
          have hsz := (path_mark hf).1
          have wp := w_up p (by omega)
          have IH := ih (i + 1) (out ++ [nmR (l[i]).f0]) (by omega) (by rw [List.length_append]; simp; omega)
          rw [List.append_assoc] at IH
          refine ev_cong (fun k => if_pos (by rw [tl, tl]; exact c2)) (ev_call h9 (ev_cong (fun k => ?_) IH))
          rw [wp, if_pos (by omega), if_pos (by omega), if_pos (by omega), Int.toNat_natCast, ← h7]
        · rw [if_neg c2]
          exact ev_cong (fun k => if_neg (by rw [tl, tl]; exact c2)) (ih (i + 1) out (by omega) (by omega))
theorem kids_spec {l : List ZZ} (hg : ∀ z ∈ l, zOwn z = 0) (hl : l.length ≤ 20) (q : ByteArray) : Ev (fun k => spec_l2Kids.f k l q) (kidsL q l) := by
  have := kids_spec_l0 hg hl q l.length 0 [] (by omega) (Nat.le_refl _)
  rw [List.nil_append, List.drop_zero] at this
  exact this
end Go.Proofs.YtajlnffefoeppaaDoor.Pure

/- A node taken from a right tree, by the reference. -/
namespace Go.Proofs.YtajlnffefoeppaaDoor.Pure
open Go.RowKit Go.Proofs.YtajlnffefoeppaaDoor.Qa Go.Proofs.YtajlnffefoeppaaDoorW.PrintWords Go.Proofs.YtajlnffefoeppaaDoorW.PrintLast Go.Proofs.YtajlnffefoeppaaDoor.Aid
def goneAt (l : List ZZ) (p : Nat) : List ZZ := l.take p ++ l.drop (p + 1)
noncomputable def deleteIn (l : List ZZ) (q : ByteArray) (v : Int) : ZR :=
  if q.data.toList = [47] then badZ 1 else if hereK pk l q.data.toList = true then
    (if v = -1 ∨ v = (rd_T44 l (posK pk l q.data.toList : Int)).f2 then (if kidsL q l = [] then (0, (⟨#[]⟩ : ByteArray), goneAt l (posK pk l q.data.toList)) else badZ 8) else badZ 7) else badZ 4
theorem del_top {l : List ZZ} {q : ByteArray} {v : Int} (h : q.data.toList = [47]) : deleteIn l q v = badZ 1 := by unfold deleteIn; exact if_pos h
theorem del_none {l : List ZZ} {q : ByteArray} {v : Int} (h : ¬ q.data.toList = [47]) (c : ¬ hereK pk l q.data.toList = true) : deleteIn l q v = badZ 4 := by unfold deleteIn; exact (if_neg h).trans (if_neg c)
theorem del_ver {l : List ZZ} {q : ByteArray} {v : Int} (h : ¬ q.data.toList = [47]) (c : hereK pk l q.data.toList = true) (hv : ¬ (v = -1 ∨ v = (rd_T44 l (posK pk l q.data.toList : Int)).f2)) : deleteIn l q v = badZ 7 := by unfold deleteIn; exact (if_neg h).trans ((if_pos c).trans (if_neg hv))
theorem del_kids {l : List ZZ} {q : ByteArray} {v : Int} (h : ¬ q.data.toList = [47]) (c : hereK pk l q.data.toList = true) (hv : v = -1 ∨ v = (rd_T44 l (posK pk l q.data.toList : Int)).f2) (hk : ¬ kidsL q l = []) : deleteIn l q v = badZ 8 := by unfold deleteIn; exact (if_neg h).trans ((if_pos c).trans ((if_pos hv).trans (if_neg hk)))
theorem del_ok {l : List ZZ} {q : ByteArray} {v : Int} (h : ¬ q.data.toList = [47]) (c : hereK pk l q.data.toList = true) (hv : v = -1 ∨ v = (rd_T44 l (posK pk l q.data.toList : Int)).f2) (hk : kidsL q l = []) : deleteIn l q v = (0, (⟨#[]⟩ : ByteArray), goneAt l (posK pk l q.data.toList)) := by unfold deleteIn; exact (if_neg h).trans ((if_pos c).trans ((if_pos hv).trans (if_pos hk)))
theorem kids_pos {q : ByteArray} {l : List ZZ} (h : ¬ kidsL q l = []) : ((kidsL q l).length : Int) > 0 := by
  cases hk : kidsL q l with
  | nil => exact absurd hk h
  | cons x r => rw [List.length_cons]; omega
theorem delete_l2 {l : List ZZ} (hg : ∀ z ∈ l, zOwn z = 0) (hl : l.length ≤ 20) (q : ByteArray) (p : Nat) (hp : p < l.length) (b : Bool) (R : ZR) (h7 : b = true → R = badZ 7) (h8 : b = false → ¬ kidsL q l = [] → R = badZ 8) (h0 : b = false → kidsL q l = [] → R = (0, (⟨#[]⟩ : ByteArray), goneAt l p)) : Ev (fun k => spec_l2Delete.j0 k l q (p : Int) b) R := by
  cases b with
  | true =>
    rw [h7 rfl]
    exact ev_done fun k => by simp only [spec_l2Delete.j0]; rw [if_pos trivial]; rfl
  | false =>
    refine ev_step _ (fun k => by simp only [spec_l2Delete.j0]; rw [if_neg (by simp)]) (ev_call (kids_spec hg hl q) ?_)
    by_cases hk : kidsL q l = []
    · rw [h0 rfl hk, hk]
      have ht : (l.take p).length ≤ 20 := by rw [List.length_take]; omega
      have hd : (l.drop (p + 1)).length ≤ 20 := by rw [List.length_drop]; omega
      have b0 : (0 : Int) ≤ (p : Int) := by omega
      have b1 : (p : Int) ≤ (l.length : Int) := by omega
      have b2 : (l.take p).length < 2932031007402 := by omega
      have b3 : (0 : Int) ≤ ((p + 1 : Nat) : Int) := by omega
      have b4 : ((p + 1 : Nat) : Int) ≤ (l.length : Int) := by omega
      have b5 : (l.take p).length + (l.drop (p + 1)).length < 2932031007402 := by omega
      have wp := w_up p (by omega)
      refine ev_is fun k => ?_
      rw [if_neg (show ¬ (([] : List ByteArray).length : Int) > 0 by simp)]
      simp only [Option.bind_some, List.nil_append, List.length_nil, Nat.zero_add, Int.toNat_natCast, wp, b0, b1, b2, b3, b4, b5, if_true]
      rfl
    · rw [h8 rfl hk]
      exact ev_is fun k => if_pos (kids_pos hk)
theorem delete_in_spec {l : List ZZ} (hg : ∀ z ∈ l, zOwn z = 0) (hr : Rises pk l) (hl : l.length ≤ 20) (q : ByteArray) (v : Int) : Ev (fun k => spec_l2Delete.f k l q v) (deleteIn l q v) := by
  unfold spec_l2Delete.f
  by_cases h : q.data.toList = [47]
  · rw [del_top h]
    exact ev_is fun k => if_pos (by rw [tl]; exact h)
  · refine ev_cong (fun k => if_neg (by rw [tl]; exact h)) (ev_call (at_is hr (by omega) q) ?_)
    by_cases c : hereK pk l q.data.toList = true
    · have hp := hereK_lt c
      have ei : (if hereK pk l q.data.toList = true then (posK pk l q.data.toList : Int) else -1) = (posK pk l q.data.toList : Int) := if_pos c
      have h7 : ¬ (v = -1 ∨ v = (rd_T44 l (posK pk l q.data.toList : Int)).f2) → deleteIn l q v = badZ 7 := del_ver h c
      have h8 := fun hv hk => del_kids (l := l) (q := q) (v := v) h c hv hk
      have h0 := fun hv hk => del_ok (l := l) (q := q) (v := v) h c hv hk
      rw [ei]
      generalize posK pk l q.data.toList = p at hp h7 h8 h0
      refine ev_cong (fun k => if_neg (by omega)) ?_
      by_cases h2 : v = -1
      · exact ev_cong (fun k => if_pos h2) (delete_l2 hg hl q p hp false _ (fun h => by cases h) (fun _ hk => h8 (.inl h2) hk) (fun _ hk => h0 (.inl h2) hk))
      · refine ev_cong (fun k => (if_neg h2).trans ((if_pos (by omega)).trans (if_pos (by omega)))) (delete_l2 hg hl q p hp _ _ (fun hb => h7 ?_) (fun hb hk => h8 ?_ hk) (fun hb hk => h0 ?_ hk))
        · have := bne_iff_ne.1 hb
          rintro (h3 | h3)
          · exact h2 h3
          · exact this h3
        · exact .inr (by simpa using hb)
        · exact .inr (by simpa using hb)
    · rw [del_none h c]
      have ei : (if hereK pk l q.data.toList = true then (posK pk l q.data.toList : Int) else -1) = -1 := if_neg c
      rw [ei]
      exact ev_is fun k => if_pos (by omega)
end Go.Proofs.YtajlnffefoeppaaDoor.Pure

/- Trees turned: what is set, taken or put, and what stays right. -/
namespace Go.Proofs.YtajlnffefoeppaaDoor.Pure
open Go.RowKit Go.Proofs.YtajlnffefoeppaaDoor.Qa Go.Proofs.YtajlnffefoeppaaDoorW.PrintWords Go.Proofs.YtajlnffefoeppaaDoorW.PrintLast Go.Proofs.YtajlnffefoeppaaDoor.Aid
/-- Nodes that are right one by one, rising, the top among them. -/
structure GoodT (n : Nat) (l : List ZZ) : Prop where
  few : l.length ≤ n
  good : ∀ z ∈ l, zOwn z = 0
  rise : Rises pk l
  top : ∃ z ∈ l, pk z = [47]
theorem GoodT.some {n : Nat} {l : List ZZ} (h : GoodT n l) : 1 ≤ l.length := by
  obtain ⟨z, hz, _⟩ := h.top
  cases l with
  | nil => cases hz
  | cons => simp
theorem GoodT.mono {n m : Nat} {l : List ZZ} (h : GoodT n l) (hm : n ≤ m) : GoodT m l := ⟨Nat.le_trans h.few hm, h.good, h.rise, h.top⟩
theorem TreeM.goodT {l : List ZZ} (h : TreeM l) : GoodT 20 l := ⟨h.few, h.good, h.rise, h.top⟩
theorem zOwn_of {z : ZZ} (h1 : faultR z.f0 = 0) (h2 : zIn z = true) : zOwn z = 0 := by unfold zOwn; rw [if_pos h1, if_pos h2]
theorem zIn_of {z : ZZ} (h1 : 0 ≤ z.f1 ∧ z.f1 ≤ 9999) (h2 : 0 ≤ z.f2 ∧ z.f2 ≤ 999) (h3 : 0 ≤ z.f3 ∧ z.f3 ≤ 9) (h4 : 0 ≤ z.f4 ∧ z.f4 ≤ 100) : zIn z = true := by
  unfold zIn
  rw [decide_eq_true h1, decide_eq_true h2, decide_eq_true h3, decide_eq_true h4]
  rfl
theorem zIn_ok {z : ZZ} (h : zIn z = true) : (0 ≤ z.f1 ∧ z.f1 ≤ 9999) ∧ (0 ≤ z.f2 ∧ z.f2 ≤ 999) ∧ (0 ≤ z.f3 ∧ z.f3 ≤ 9) ∧ (0 ≤ z.f4 ∧ z.f4 ≤ 100) := by
  unfold zIn at h
  simp only [Bool.and_eq_true, decide_eq_true_eq] at h
  exact h
/-! ### one node turned -/
theorem mem_set {l : List ZZ} (hr : Rises pk l) {p : Nat} (hp : p < l.length) (z x : ZZ) : x ∈ l.set p z ↔ x = z ∨ (x ∈ l ∧ x ≠ l[p]) := by
  constructor
  · intro hx
    obtain ⟨j, hj, rfl⟩ := List.getElem_of_mem hx
    rw [List.length_set] at hj
    rw [List.getElem_set]
    by_cases c : p = j
    · left; rw [if_pos c]
    · right
      rw [if_neg c]
      refine ⟨List.getElem_mem hj, fun e => c ?_⟩
      have h1 := (hereK_at hr j hj).1
      have h2 := (hereK_at hr p hp).1
      rw [e, h2] at h1
      exact h1
  · rintro (rfl | ⟨hx, hne⟩)
    · exact List.mem_set hp x
    · obtain ⟨j, hj, rfl⟩ := List.getElem_of_mem hx
      have c : p ≠ j := fun e => hne (by subst e; rfl)
      have : (l.set p z)[j]'(by rw [List.length_set]; exact hj) = l[j] := by rw [List.getElem_set, if_neg c]
      rw [← this]
      exact List.getElem_mem _
theorem set_good {n : Nat} {l : List ZZ} (h : GoodT n l) {p : Nat} (hp : p < l.length) {z : ZZ} (hk : pk z = pk l[p]) (ho : zOwn z = 0) : GoodT n (l.set p z) := by
  refine ⟨by rw [List.length_set]; exact h.few, fun x hx => ?_, same_rise (set_keys hp hk).symm h.rise, ?_⟩
  · rcases (mem_set h.rise hp z x).1 hx with rfl | ⟨hx, _⟩
    · exact ho
    · exact h.good x hx
  · obtain ⟨t, ht, e⟩ := h.top
    by_cases c : t = l[p]
    · exact ⟨z, (mem_set h.rise hp z z).2 (.inl rfl), by rw [hk, ← c]; exact e⟩
    · exact ⟨t, (mem_set h.rise hp z t).2 (.inr ⟨ht, c⟩), e⟩
theorem set_tree {l : List ZZ} (h : TreeM l) {p : Nat} (hp : p < l.length) {z : ZZ} (hk : pk z = pk l[p]) (hu : z.f0 = l[p].f0) (h3 : z.f3 = l[p].f3) (ho : zOwn z = 0) : TreeM (l.set p z) := by
  have hg := set_good h.goodT hp hk ho
  have tom : ∀ y ∈ l, ∃ y' ∈ l.set p z, pk y' = pk y ∧ y'.f3 = y.f3 := by
    intro y hy
    by_cases c : y = l[p]
    · exact ⟨z, (mem_set h.rise hp z z).2 (.inl rfl), by rw [c, hk], by rw [c, h3]⟩
    · exact ⟨y, (mem_set h.rise hp z y).2 (.inr ⟨hy, c⟩), rfl, rfl⟩
  refine ⟨hg.few, hg.good, hg.rise, hg.top, fun x hx => ?_⟩
  rcases (mem_set h.rise hp z x).1 hx with rfl | ⟨hx, _⟩
  · obtain ⟨y, hy, e, h0⟩ := h.ups l[p] (List.getElem_mem hp)
    obtain ⟨y', hy', e1, e2⟩ := tom y hy
    refine ⟨y', hy', ?_, by rw [e2, h0]⟩
    rw [e1, e]
    unfold upK
    rw [hu]
  · obtain ⟨y, hy, e, h0⟩ := h.ups x hx
    obtain ⟨y', hy', e1, e2⟩ := tom y hy
    exact ⟨y', hy', by rw [e1, e], by rw [e2, h0]⟩
theorem putVD {l : List ZZ} {p : Nat} (hp : p < l.length) (d : Int) : putV (putD l (p : Int) d) (p : Int) = l.set p (⟨l[p].f0, d, wrap64 (l[p].f2 + 1), l[p].f3, l[p].f4⟩ : ZZ) := by
  unfold putV putD
  rw [Int.toNat_natCast, rd_T44_set hp, rd_T44_at hp, List.set_set]
theorem nextUpD {l : List ZZ} {p : Nat} (hp : p < l.length) : nextUp l (p : Int) = l.set p (⟨l[p].f0, l[p].f1, l[p].f2, l[p].f3, wrap64 (l[p].f4 + 1)⟩ : ZZ) := by
  unfold nextUp
  rw [Int.toNat_natCast, rd_T44_at hp]
theorem setV_ok {z : ZZ} (h : zOwn z = 0) (h9 : ¬ z.f2 = 999) {d : Int} (hd : 0 ≤ d ∧ d ≤ 9999) : zOwn (⟨z.f0, d, wrap64 (z.f2 + 1), z.f3, z.f4⟩ : ZZ) = 0 := by
  obtain ⟨h1, h2⟩ := zOwn_ok h
  obtain ⟨_, b, c, e⟩ := zIn_ok h2
  have w : wrap64 (z.f2 + 1) = z.f2 + 1 := wrap_id (by omega) (by omega)
  exact zOwn_of h1 (zIn_of hd (by show 0 ≤ wrap64 (z.f2 + 1) ∧ wrap64 (z.f2 + 1) ≤ 999; rw [w]; omega) c e)
theorem nextV_ok {z : ZZ} (h : zOwn z = 0) (h9 : ¬ z.f4 = 100) : zOwn (⟨z.f0, z.f1, z.f2, z.f3, wrap64 (z.f4 + 1)⟩ : ZZ) = 0 := by
  obtain ⟨h1, h2⟩ := zOwn_ok h
  obtain ⟨a, b, c, e⟩ := zIn_ok h2
  have w : wrap64 (z.f4 + 1) = z.f4 + 1 := wrap_id (by omega) (by omega)
  exact zOwn_of h1 (zIn_of a b c (by show 0 ≤ wrap64 (z.f4 + 1) ∧ wrap64 (z.f4 + 1) ≤ 100; rw [w]; omega))
/-! ### one node taken -/
theorem gone_len {l : List ZZ} {p : Nat} (hp : p < l.length) : (goneAt l p).length = l.length - 1 := by
  unfold goneAt
  rw [List.length_append, List.length_take, List.length_drop]
  omega
theorem mem_gone {l : List ZZ} (hr : Rises pk l) {p : Nat} (hp : p < l.length) (x : ZZ) : x ∈ goneAt l p ↔ x ∈ l ∧ x ≠ l[p] := by
  have hs : l = l.take p ++ l[p] :: l.drop (p + 1) := by rw [← drop_at hp, List.take_append_drop]
  have hp2 := hr
  rw [hs] at hp2
  obtain ⟨_, h2, h3⟩ := List.pairwise_append.1 hp2
  obtain ⟨h4, _⟩ := List.pairwise_cons.1 h2
  unfold goneAt
  constructor
  · intro hx
    rcases List.mem_append.1 hx with hx | hx
    · refine ⟨List.mem_of_mem_take hx, fun e => ?_⟩
      have := h3 x hx l[p] (List.mem_cons.2 (.inl rfl))
      rw [e] at this
      exact lt_irr _ this
    · refine ⟨List.mem_of_mem_drop hx, fun e => ?_⟩
      have := h4 x hx
      rw [e] at this
      exact lt_irr _ this
  · rintro ⟨hx, hne⟩
    obtain ⟨j, hj, rfl⟩ := List.getElem_of_mem hx
    rcases Nat.lt_trichotomy j p with c | c | c
    · have hj2 : j < (l.take p).length := by rw [List.length_take]; omega
      have e : (l.take p)[j] = l[j] := List.getElem_take
      exact List.mem_append.2 (.inl (by rw [← e]; exact List.getElem_mem hj2))
    · subst c
      exact absurd rfl hne
    · have hj2 : j - (p + 1) < (l.drop (p + 1)).length := by rw [List.length_drop]; omega
      have e : (l.drop (p + 1))[j - (p + 1)] = l[p + 1 + (j - (p + 1))]'(by omega) := List.getElem_drop
      have e2 : l[p + 1 + (j - (p + 1))]'(by omega) = l[j] := by congr 1; omega
      exact List.mem_append.2 (.inr (by rw [← e2, ← e]; exact List.getElem_mem hj2))
theorem gone_rise {l : List ZZ} (hr : Rises pk l) (p : Nat) : Rises pk (goneAt l p) := by
  unfold goneAt
  rcases Nat.lt_or_ge p l.length with hp | hp
  · have hs : l = l.take p ++ l[p] :: l.drop (p + 1) := by rw [← drop_at hp, List.take_append_drop]
    have hp2 := hr
    rw [hs] at hp2
    obtain ⟨h1, h2, h3⟩ := List.pairwise_append.1 hp2
    exact List.pairwise_append.2 ⟨h1, (List.pairwise_cons.1 h2).2, fun x hx y hy => h3 x hx y (List.mem_cons_of_mem _ hy)⟩
  · rw [List.take_of_length_le hp, drop_end (by omega), List.append_nil]
    exact hr
theorem gone_good {n : Nat} {l : List ZZ} (h : GoodT n l) {p : Nat} (hp : p < l.length) (ht : ¬ pk l[p] = [47]) : GoodT n (goneAt l p) := by
  refine ⟨by rw [gone_len hp]; have := h.few; omega, fun x hx => h.good x ((mem_gone h.rise hp x).1 hx).1, gone_rise h.rise p, ?_⟩
  obtain ⟨t, htm, e⟩ := h.top
  exact ⟨t, (mem_gone h.rise hp t).2 ⟨htm, fun c => ht (by rw [← c]; exact e)⟩, e⟩
/-! ### one node put -/
theorem ins_len {l : List ZZ} {p : Nat} (hp : p ≤ l.length) (z : ZZ) : (insAt l p z).length = l.length + 1 := by
  unfold insAt
  rw [List.length_append, List.length_append, List.length_take, List.length_drop, List.length_singleton]
  omega
theorem mem_ins {l : List ZZ} {p : Nat} (z x : ZZ) : x ∈ insAt l p z ↔ x = z ∨ x ∈ l := by
  unfold insAt
  constructor
  · intro hx
    rcases List.mem_append.1 hx with hx | hx
    · rcases List.mem_append.1 hx with hx | hx
      · exact .inr (List.mem_of_mem_take hx)
      · exact .inl (List.mem_singleton.1 hx)
    · exact .inr (List.mem_of_mem_drop hx)
  · rintro (rfl | hx)
    · simp
    · rw [← List.take_append_drop p l] at hx
      rcases List.mem_append.1 hx with hx | hx
      · exact List.mem_append.2 (.inl (List.mem_append.2 (.inl hx)))
      · exact List.mem_append.2 (.inr hx)
theorem ins_rise {l : List ZZ} (hr : Rises pk l) (z : ZZ) (hz : ¬ hereK pk l (pk z) = true) : Rises pk (insAt l (posK pk l (pk z)) z) := by
  have hne : ∀ y ∈ l, pk y ≠ pk z := fun y hy e => hz (by rw [← e]; exact hereK_mem hr hy)
  have lo : ∀ y ∈ l.take (posK pk l (pk z)), pk y < pk z := by
    intro y hy
    obtain ⟨j, hj, rfl⟩ := List.getElem_of_mem hy
    rw [List.length_take] at hj
    rw [List.getElem_take]
    exact (posK_iff hr (pk z) j (by omega)).2 (by omega)
  have hi : ∀ y ∈ l.drop (posK pk l (pk z)), pk z < pk y := by
    intro y hy
    have hn := hne y (List.mem_of_mem_drop hy)
    obtain ⟨j, hj, rfl⟩ := List.getElem_of_mem hy
    rw [List.length_drop] at hj
    rw [List.getElem_drop] at hn ⊢
    exact lt_tri (fun c => by have := (posK_iff hr (pk z) _ (by omega)).1 c; omega) hn
  unfold insAt
  refine List.pairwise_append.2 ⟨List.pairwise_append.2 ⟨hr.sublist (List.take_sublist _ _), List.pairwise_singleton _ _, ?_⟩, hr.sublist (List.drop_sublist _ _), ?_⟩
  · intro x hx y hy
    rw [List.mem_singleton] at hy
    subst hy
    exact lo x hx
  · intro x hx y hy
    rcases List.mem_append.1 hx with hx | hx
    · exact lt_tr (lo x hx) (hi y hy)
    · rw [List.mem_singleton] at hx
      subst hx
      exact hi y hy
theorem ins_good {n : Nat} {l : List ZZ} (h : GoodT n l) {z : ZZ} (hz : ¬ hereK pk l (pk z) = true) (ho : zOwn z = 0) : GoodT (n + 1) (insAt l (posK pk l (pk z)) z) := by
  refine ⟨by rw [ins_len (posK_le _ _ _)]; have := h.few; omega, fun x hx => ?_, ins_rise h.rise z hz, ?_⟩
  · rcases (mem_ins z x).1 hx with rfl | hx
    · exact ho
    · exact h.good x hx
  · obtain ⟨t, ht, e⟩ := h.top
    exact ⟨t, (mem_ins z t).2 (.inr ht), e⟩
/-! ### the reference's turns, once they are done -/
theorem setIn_good {n : Nat} {l : List ZZ} (h : GoodT n l) {q : ByteArray} {d v : Int} (h0 : (setIn l q d v).1 = 0) : GoodT n (setIn l q d v).2.2 := by
  unfold setIn at h0 ⊢
  by_cases hd : 0 ≤ d ∧ d ≤ 9999
  · rw [if_pos hd] at h0 ⊢
    by_cases hh : hereK pk l q.data.toList = true
    · rw [if_pos hh] at h0 ⊢
      have hp := hereK_lt hh
      unfold setAt at h0 ⊢
      rw [rd_T44_at hp] at h0 ⊢
      by_cases hv : v = -1 ∨ v = (l[posK pk l q.data.toList]).f2
      · rw [if_pos hv] at h0 ⊢
        by_cases h9 : (l[posK pk l q.data.toList]).f2 = 999
        · rw [if_pos h9] at h0; cases h0
        · rw [if_neg h9]
          show GoodT n (putV (putD l _ d) _)
          rw [putVD hp]
          exact set_good h hp rfl (setV_ok (h.good _ (List.getElem_mem hp)) h9 hd)
      · rw [if_neg hv] at h0; cases h0
    · rw [if_neg hh] at h0; cases h0
  · rw [if_neg hd] at h0; cases h0
theorem deleteIn_good {n : Nat} {l : List ZZ} (h : GoodT n l) {q : ByteArray} {v : Int} (h0 : (deleteIn l q v).1 = 0) : GoodT n (deleteIn l q v).2.2 := by
  by_cases ht : q.data.toList = [47]
  · rw [del_top ht] at h0; cases h0
  · by_cases hh : hereK pk l q.data.toList = true
    · have hp := hereK_lt hh
      by_cases hv : v = -1 ∨ v = (rd_T44 l (posK pk l q.data.toList : Int)).f2
      · by_cases hk : kidsL q l = []
        · rw [del_ok ht hh hv hk]
          exact gone_good h hp (by rw [hereK_eq hh]; exact ht)
        · rw [del_kids ht hh hv hk] at h0; cases h0
      · rw [del_ver ht hh hv] at h0; cases h0
    · rw [del_none ht hh] at h0; cases h0
theorem makeR_good {n : Nat} {l : List ZZ} (h : GoodT n l) {q : ByteArray} (hq : faultR q = 0) {d o : Int} (hd : 0 ≤ d ∧ d ≤ 9999) (ho : 0 ≤ o ∧ o ≤ 9) (h0 : (makeR l q d o).1 = 0) : GoodT (n + 1) (makeR l q d o).2.2 := by
  unfold makeR at h0 ⊢
  by_cases hh : hereK pk l q.data.toList = true
  · rw [if_pos hh] at h0; cases h0
  · rw [if_neg hh] at h0 ⊢
    by_cases h2 : l.length = 20
    · rw [if_pos h2] at h0; cases h0
    · rw [if_neg h2]
      exact ins_good (z := (⟨q, d, 0, o, 0⟩ : ZZ)) h hh (zOwn_of hq (zIn_of hd ⟨Int.le_refl _, by show (0 : Int) ≤ 999; omega⟩ ho ⟨Int.le_refl _, by show (0 : Int) ≤ 100; omega⟩))
theorem createIn_good {n : Nat} {l : List ZZ} (h : GoodT n l) {q : ByteArray} (hq : faultR q = 0) {d o : Int} {b : Bool} (h0 : (createIn l q d o b).1 = 0) : GoodT (n + 1) (createIn l q d o b).2.2 := by
  unfold createIn at h0 ⊢
  by_cases hdo : (0 ≤ d ∧ d ≤ 9999) ∧ (0 ≤ o ∧ o ≤ 9)
  · rw [if_pos hdo] at h0 ⊢
    by_cases ht : q.data.toList = [47]
    · rw [if_pos ht] at h0; cases h0
    · rw [if_neg ht] at h0 ⊢
      by_cases hh : hereK pk l (upR q).data.toList = true
      · rw [if_pos hh] at h0 ⊢
        have hp := hereK_lt hh
        rw [rd_T44_at hp] at h0 ⊢
        by_cases h3 : (l[posK pk l (upR q).data.toList]).f3 = 0
        · rw [if_pos h3] at h0 ⊢
          unfold createUp at h0 ⊢
          rw [rd_T44_at hp] at h0 ⊢
          cases b with
          | false =>
            rw [if_neg (by decide)] at h0 ⊢
            exact makeR_good h hq hdo.1 hdo.2 h0
          | true =>
            rw [if_pos rfl] at h0 ⊢
            by_cases h4 : (l[posK pk l (upR q).data.toList]).f4 = 100
            · rw [if_pos h4] at h0; cases h0
            · rw [if_neg h4] at h0 ⊢
              by_cases h5 : nameB (seqT (nmR q) (l[posK pk l (upR q).data.toList]).f4) = true
              · rw [if_pos h5] at h0 ⊢
                by_cases h6 : faultR (joinR (upR q) (seqT (nmR q) (l[posK pk l (upR q).data.toList]).f4)) = 0
                · rw [if_pos h6] at h0 ⊢
                  rw [nextUpD hp] at h0 ⊢
                  exact makeR_good (by exact set_good h hp rfl (nextV_ok (h.good _ (List.getElem_mem hp)) h4)) h6 hdo.1 hdo.2 h0
                · rw [if_neg h6] at h0; exact absurd h0 h6
              · rw [if_neg h5] at h0; cases h0
        · rw [if_neg h3] at h0; cases h0
      · rw [if_neg hh] at h0; cases h0
  · rw [if_neg hdo] at h0; cases h0
end Go.Proofs.YtajlnffefoeppaaDoor.Pure

/- The draws of paths and trees: they answer, whatever the code. -/
namespace Go.Proofs.YtajlnffefoeppaaDoor.Pure
open Go.RowKit Go.Proofs.YtajlnffefoeppaaDoor.Qa Go.Proofs.YtajlnffefoeppaaDoorW.PrintWords Go.Proofs.YtajlnffefoeppaaDoorW.PrintLast Go.Proofs.YtajlnffefoeppaaDoor.Aid
def abcL : List ByteArray := [(⟨#[97]⟩ : ByteArray), (⟨#[98]⟩ : ByteArray), (⟨#[99]⟩ : ByteArray)]
/-- The paths that are drawn, by their depth. -/
def drawP : Nat → List ByteArray
  | 0 => [(⟨#[47]⟩ : ByteArray)]
  | d + 1 => (drawP d).flatMap fun p => abcL.map fun n => joinR p n
theorem drawP_ok : (drawP 0 ++ drawP 1 ++ drawP 2 ++ drawP 3).all (fun p => decide (faultR p = 0) && decide (p.size ≤ 7)) = true := by decide +kernel
theorem drawP_good {d : Nat} (hd : d ≤ 3) {p : ByteArray} (hp : p ∈ drawP d) : faultR p = 0 ∧ p.size ≤ 7 := by
  have h := List.all_eq_true.1 drawP_ok p (by
    match d, hd with
    | 0, _ => simp [hp]
    | 1, _ => simp [hp]
    | 2, _ => simp [hp]
    | 3, _ => simp [hp])
  rw [Bool.and_eq_true, decide_eq_true_eq, decide_eq_true_eq] at h
  exact h
theorem drawT_l0 {c : List Int} (hc : CodeT c) (d : Nat) : ∀ (j : Nat) (p : ByteArray) (a : Int), j + d ≤ 3 → p ∈ drawP j → 0 ≤ a → a + d ≤ 900000 → ∃ (p' : ByteArray) (b : Int), Ev (fun k => spec_l1Draw.l0 k p (d : Int) c a) (p', b) ∧ p' ∈ drawP (j + d) ∧ a ≤ b ∧ b ≤ a + d := by
  induction d with
  | zero => exact fun j p a _ hp h0 h1 => ⟨p, a, ev_done fun k => by simp only [spec_l1Draw.l0]; rw [if_neg (by omega)], hp, by omega, by omega⟩
  | succ d ih =>
    intro j p a hj hp h0 h1
    obtain ⟨hf, hs⟩ := drawP_good (show j ≤ 3 by omega) hp
    obtain ⟨r, hr, r0, r1⟩ := next_is hc a 3 h0 (by omega) (by omega) (by omega)
    obtain ⟨i, rfl⟩ : ∃ i : Nat, r = (i : Int) := ⟨r.toNat, by omega⟩
    have hi : i < abcL.length := by show i < 3; omega
    have hn : abcL[i] ∈ abcL := List.getElem_mem hi
    have hns : (abcL[i]).size ≤ 1048576 := by
      have : abcL.all (fun n => decide (n.size ≤ 1048576)) = true := by decide
      exact of_decide_eq_true (List.all_eq_true.1 this _ hn)
    have hm : joinR p abcL[i] ∈ drawP (j + 1) := List.mem_flatMap.2 ⟨p, hp, List.mem_map.2 ⟨_, hn, rfl⟩⟩
    obtain ⟨p', b, h2, h3, h4, h5⟩ := ih (j + 1) _ (a + 1) (by omega) hm (by omega) (by omega)
    refine ⟨p', b, ev_step _ (fun k => ?_) h2, by rw [show j + (d + 1) = j + 1 + d by omega]; exact h3, by omega, by omega⟩
    have wd : wrap64 (((d + 1 : Nat) : Int) - 1) = (d : Int) := by rw [wrap_id (by omega) (by omega)]; omega
    have hj2 := join_spec p abcL[i] (by omega) hns
    have hrd : rdOf ByteArray.empty abcL (i : Int) = abcL[i] := rdOf_at hi
    simp only [spec_l1Draw.l0]
    rw [if_pos (by omega), Option.bind_some, hr, Option.bind_some]
    dsimp only
    rw [if_pos r0]
    show (if (i : Int) < (abcL.length : Int) then ((spec_l1Join.f p (rdOf ByteArray.empty abcL (i : Int))).bind fun t109 => spec_l1Draw.l0 k t109 (wrap64 (((d + 1 : Nat) : Int) - 1)) c (a + 1)) else none) = _
    rw [if_pos (show (i : Int) < (abcL.length : Int) by omega), hrd, hj2, Option.bind_some, wd]
theorem drawPath_ev {c : List Int} (hc : CodeT c) (a : Int) (h0 : 0 ≤ a) (h1 : a ≤ 800000) : ∃ (p : ByteArray) (b : Int), Ev (fun k => spec_l1Draw.f k c a) (p, b) ∧ faultR p = 0 ∧ p.size ≤ 7 ∧ a ≤ b ∧ b ≤ a + 4 := by
  obtain ⟨r, hr, r0, r1⟩ := next_is hc a 4 h0 (by omega) (by omega) (by omega)
  obtain ⟨d, rfl⟩ : ∃ d : Nat, r = (d : Int) := ⟨r.toNat, by omega⟩
  obtain ⟨p, b, h2, h3, h4, h5⟩ := drawT_l0 hc d 0 _ (a + 1) (by omega) (List.mem_singleton.2 rfl) (by omega) (by omega)
  obtain ⟨hf, hs⟩ := drawP_good (show 0 + d ≤ 3 by omega) h3
  refine ⟨p, b, ?_, hf, hs, by omega, by omega⟩
  unfold spec_l1Draw.f
  exact ev_cong (fun k => by rw [hr, Option.bind_some]) h2
theorem pick_text (l : List ByteArray) (b : Nat) (hl : ∀ x ∈ l, x.size ≤ b) (r : Int) (h0 : 0 ≤ r) (h1 : r < (l.length : Int)) : (rdOf ByteArray.empty l r).size ≤ b := by
  obtain ⟨j, rfl⟩ : ∃ j : Nat, r = (j : Int) := ⟨r.toNat, by omega⟩
  rw [rdOf_at (by omega)]
  exact hl _ (List.getElem_mem _)
theorem bentPath_ev {c : List Int} (hc : CodeT c) (a : Int) (h0 : 0 ≤ a) (h1 : a ≤ 700000) : ∃ (p : ByteArray) (b : Int), Ev (fun k => spec_l1Bent.f k c a) (p, b) ∧ p.size ≤ 25 ∧ a ≤ b ∧ b ≤ a + 6 := by
  obtain ⟨p, b, h2, h3, h4, h5, h6⟩ := drawPath_ev hc a h0 (by omega)
  obtain ⟨r2, hr2, s0, s1⟩ := next_is hc b 10 (by omega) (by omega) (by omega) (by omega)
  obtain ⟨r3, hr3, u0, u1⟩ := next_is hc (b + 1) 7 (by omega) (by omega) (by omega) (by omega)
  have e1 : (⟨#[47]⟩ : ByteArray).size = 1 := rfl
  unfold spec_l1Bent.f
  by_cases c0 : r2 = 0
  · refine ⟨p ++ (⟨#[47]⟩ : ByteArray), b + 1, ev_call h2 (ev_is fun k => ?_), by rw [cat_size]; omega, by omega, by omega⟩
    dsimp only
    rw [hr2, Option.bind_some, if_pos c0, if_pos (by omega)]
  · by_cases c1 : r2 = 1
    · refine ⟨rdOf ByteArray.empty [(⟨#[]⟩ : ByteArray), (⟨#[97]⟩ : ByteArray), (⟨#[47, 47]⟩ : ByteArray), (⟨#[47, 65]⟩ : ByteArray), (⟨#[47, 97, 47, 98, 47, 99, 47, 100, 47, 101]⟩ : ByteArray), (⟨#[47, 97, 98, 99, 100, 101, 102, 103, 104, 105]⟩ : ByteArray), (⟨#[47, 97, 97, 97, 97, 97, 97, 97, 97, 47, 97, 97, 97, 97, 97, 97, 97, 97, 47, 97, 97, 97, 97, 97, 97]⟩ : ByteArray)] r3, b + 1 + 1, ev_call h2 (ev_is fun k => ?_), pick_text _ 25 (by decide) r3 u0 ?_, by omega, by omega⟩
      · dsimp only
        rw [hr2, Option.bind_some, if_neg c0, if_pos c1, Option.bind_some, hr3, Option.bind_some, if_pos u0, if_pos (by simpa using u1)]
      · simpa using u1
    · refine ⟨p, b + 1, ev_call h2 (ev_is fun k => ?_), by omega, by omega, by omega⟩
      dsimp only
      rw [hr2, Option.bind_some, if_neg c0, if_neg c1]
/-! ### trees -/
theorem tRight_l0 {c : List Int} (hc : CodeT c) (d : Nat) : ∀ (n : Nat) (out : List ZZ) (a : Int), GoodT n out → n + d ≤ 20 → 0 ≤ a → a + 12 * d ≤ 600000 → ∃ (x : List ZZ) (b : Int), Ev (fun k => spec_l2Right.l0 k out (d : Int) c a) (x, b) ∧ GoodT (n + d) x ∧ a ≤ b ∧ b ≤ a + 12 * d := by
  induction d with
  | zero => exact fun n out a ho _ h0 h1 => ⟨out, a, ev_done fun k => by simp only [spec_l2Right.l0]; rw [if_neg (by omega)], ho, by omega, by omega⟩
  | succ d ih =>
    intro n out a ho hd h0 h1
    have hlen := ho.few
    have wd : wrap64 (((d + 1 : Nat) : Int) - 1) = (d : Int) := by rw [wrap_id (by omega) (by omega)]; omega
    obtain ⟨p, b, hp, hf, hs, hb0, hb1⟩ := drawPath_ev hc a h0 (by omega)
    obtain ⟨r1, e1, _, _⟩ := next_is hc b 99 (by omega) (by omega) (by omega) (by omega)
    obtain ⟨r2, e2, _⟩ := pick_is hc (b + 1) [0, 0, 1, 2] (by omega) (by omega) (by simp) (by simp)
    obtain ⟨r3, e3⟩ := chance_is hc (b + 1 + 1) 5 (by omega) (by omega) (by omega) (by omega)
    have hC := create_in_spec ho.good ho.rise (by omega) hf r1 r2 r3
    obtain ⟨r4, e4, _, _⟩ := next_is hc (b + 1 + 1 + 1) 6 (by omega) (by omega) (by omega) (by omega)
    obtain ⟨r5, e5, _, _⟩ := next_is hc (b + 1 + 1 + 1 + 1) 99 (by omega) (by omega) (by omega) (by omega)
    have hS := set_in_spec ho.good (by omega) ho.rise p r5 (-1)
    have hD := delete_in_spec ho.good ho.rise (by omega) p (-1)
    have fin : ∀ (l : List ZZ) (e : Int), GoodT (n + 1) l → a ≤ e → e ≤ a + 12 → ∃ (x : List ZZ) (y : Int), Ev (fun k => spec_l2Right.l0 k l (d : Int) c e) (x, y) ∧ GoodT (n + (d + 1)) x ∧ a ≤ y ∧ y ≤ a + 12 * ((d + 1 : Nat) : Int) := by
      intro l e hl he0 he1
      obtain ⟨x, y, q1, q2, q3, q4⟩ := ih (n + 1) l e hl (by omega) (by omega) (by omega)
      exact ⟨x, y, q1, by rw [show n + (d + 1) = n + 1 + d by omega]; exact q2, by omega, by omega⟩
    have up : GoodT (n + 1) out := ho.mono (by omega)
    have first : ∀ R : List ZZ × Int, Ev (fun k => (if r4 = 0 then ((spec_l1Next.f c (b + 1 + 1 + 1 + 1) 99).bind fun bt129 => ((spec_l2Set.f k out p bt129.1 (-1)).bind fun bt131 => (if bt131.1 = 0 then (spec_l2Right.l0 k bt131.2.2 (d : Int) c bt129.2) else (spec_l2Right.l0 k out (d : Int) c bt129.2)))) else (if r4 = 1 then ((spec_l2Delete.f k out p (-1)).bind fun bt136 => (if bt136.1 = 0 then (spec_l2Right.l0 k bt136.2.2 (d : Int) c (b + 1 + 1 + 1 + 1)) else (spec_l2Right.l0 k out (d : Int) c (b + 1 + 1 + 1 + 1)))) else (if (createIn out p r1 r2 r3).1 = 0 then (spec_l2Right.l0 k (createIn out p r1 r2 r3).2.2 (d : Int) c (b + 1 + 1 + 1 + 1)) else (spec_l2Right.l0 k out (d : Int) c (b + 1 + 1 + 1 + 1)))))) R → Ev (fun k => spec_l2Right.l0 k out ((d + 1 : Nat) : Int) c a) R := by
      intro R h
      refine ev_step _ (fun k => by simp only [spec_l2Right.l0]; exact if_pos (by omega)) (ev_call hp ?_)
      refine ev_cong (fun k => by dsimp only; rw [e1, Option.bind_some, e2, Option.bind_some, e3, Option.bind_some]) (ev_call hC ?_)
      refine ev_cong (fun k => by dsimp only; rw [e4, Option.bind_some, wd]) h
    by_cases c0 : r4 = 0
    · by_cases g : (setIn out p r5 (-1)).1 = 0
      · obtain ⟨x, y, q1, q2⟩ := fin (setIn out p r5 (-1)).2.2 (b + 1 + 1 + 1 + 1 + 1) ((setIn_good ho g).mono (by omega)) (by omega) (by omega)
        exact ⟨x, y, first _ (ev_cong (fun k => if_pos c0) (ev_cong (fun k => by rw [e5, Option.bind_some]) (ev_call hS (ev_cong (fun k => if_pos g) q1)))), q2⟩
      · obtain ⟨x, y, q1, q2⟩ := fin out (b + 1 + 1 + 1 + 1 + 1) up (by omega) (by omega)
        exact ⟨x, y, first _ (ev_cong (fun k => if_pos c0) (ev_cong (fun k => by rw [e5, Option.bind_some]) (ev_call hS (ev_cong (fun k => if_neg g) q1)))), q2⟩
    · by_cases c1 : r4 = 1
      · by_cases g : (deleteIn out p (-1)).1 = 0
        · obtain ⟨x, y, q1, q2⟩ := fin (deleteIn out p (-1)).2.2 (b + 1 + 1 + 1 + 1) ((deleteIn_good ho g).mono (by omega)) (by omega) (by omega)
          exact ⟨x, y, first _ (ev_cong (fun k => (if_neg c0).trans (if_pos c1)) (ev_call hD (ev_cong (fun k => if_pos g) q1))), q2⟩
        · obtain ⟨x, y, q1, q2⟩ := fin out (b + 1 + 1 + 1 + 1) up (by omega) (by omega)
          exact ⟨x, y, first _ (ev_cong (fun k => (if_neg c0).trans (if_pos c1)) (ev_call hD (ev_cong (fun k => if_neg g) q1))), q2⟩
      · by_cases g : (createIn out p r1 r2 r3).1 = 0
        · obtain ⟨x, y, q1, q2⟩ := fin (createIn out p r1 r2 r3).2.2 (b + 1 + 1 + 1 + 1) (createIn_good ho hf g) (by omega) (by omega)
          exact ⟨x, y, first _ (ev_cong (fun k => (if_neg c0).trans ((if_neg c1).trans (if_pos g))) q1), q2⟩
        · obtain ⟨x, y, q1, q2⟩ := fin out (b + 1 + 1 + 1 + 1) up (by omega) (by omega)
          exact ⟨x, y, first _ (ev_cong (fun k => (if_neg c0).trans ((if_neg c1).trans (if_neg g))) q1), q2⟩
theorem new_is {r : Int} (h : 0 ≤ r ∧ r ≤ 9999) : spec_NewTree.f r = some (0, (⟨#[]⟩ : ByteArray), [(⟨(⟨#[47]⟩ : ByteArray), r, 0, 0, 0⟩ : ZZ)]) := by
  unfold spec_NewTree.f spec_l2Data.f
  rw [spec_l1In_is, Option.bind_some, Option.bind_some, if_pos (decide_eq_true h)]
theorem new_good {r : Int} (h : 0 ≤ r ∧ r ≤ 9999) : GoodT 1 [(⟨(⟨#[47]⟩ : ByteArray), r, 0, 0, 0⟩ : ZZ)] := by
  refine ⟨by simp, fun z hz => ?_, List.pairwise_singleton _ _, ⟨_, List.mem_singleton.2 rfl, rfl⟩⟩
  rw [List.mem_singleton] at hz
  subst hz
  exact zOwn_of top_fault (zIn_of h ⟨Int.le_refl _, by show (0 : Int) ≤ 999; omega⟩ ⟨Int.le_refl _, by show (0 : Int) ≤ 9; omega⟩ ⟨Int.le_refl _, by show (0 : Int) ≤ 100; omega⟩)
theorem tRight_ev {c : List Int} (hc : CodeT c) (a : Int) (h0 : 0 ≤ a) (h1 : a ≤ 500000) : ∃ (x : List ZZ) (b : Int), Ev (fun k => spec_l2Right.f k c a) (x, b) ∧ GoodT 12 x ∧ a ≤ b ∧ b ≤ a + 140 := by
  obtain ⟨r, e1, r0, r1⟩ := next_is hc a 9 h0 (by omega) (by omega) (by omega)
  obtain ⟨s, e2, s0, s1⟩ := next_is hc (a + 1) 12 (by omega) (by omega) (by omega) (by omega)
  obtain ⟨d, rfl⟩ : ∃ d : Nat, s = (d : Int) := ⟨s.toNat, by omega⟩
  obtain ⟨x, b, hx, hg, hb0, hb1⟩ := tRight_l0 hc d 1 _ (a + 1 + 1) (new_good (r := r) (by omega)) (by omega) (by omega) (by omega)
  refine ⟨x, b, ?_, hg.mono (by omega), by omega, by omega⟩
  unfold spec_l2Right.f
  exact ev_cong (fun k => by rw [e1, Option.bind_some, new_is (by omega), Option.bind_some, e2, Option.bind_some]) hx
theorem tBent_ev {c : List Int} (hc : CodeT c) (a : Int) (h0 : 0 ≤ a) (h1 : a ≤ 500000) : ∃ (x : List ZZ) (b : Int), Ev (fun k => spec_l2Bent.f k c a) (x, b) ∧ 1 ≤ x.length ∧ x.length ≤ 21 ∧ a ≤ b ∧ b ≤ a + 160 := by
  obtain ⟨x, b, hx, hg, hb0, hb1⟩ := tRight_ev hc a h0 h1
  have hs := hg.some
  have hf := hg.few
  obtain ⟨i, ei, i0, i1⟩ := next_is hc b (x.length : Int) (by omega) (by omega) (by omega) (by omega)
  obtain ⟨r, er, _, _⟩ := next_is hc (b + 1) 14 (by omega) (by omega) (by omega) (by omega)
  obtain ⟨p, b2, hp, _, hp0, hp1⟩ := bentPath_ev hc (b + 1 + 1) (by omega) (by omega)
  obtain ⟨r1, e1, _⟩ := pick_is hc (b + 1 + 1) [(-1), 10000] (by omega) (by omega) (by simp) (by simp)
  obtain ⟨r2, e2, _⟩ := pick_is hc (b + 1 + 1) [(-1), 999, 1000] (by omega) (by omega) (by simp) (by simp)
  obtain ⟨r3, e3, _⟩ := pick_is hc (b + 1 + 1) [3, 10] (by omega) (by omega) (by simp) (by simp)
  obtain ⟨r4, e4, _⟩ := pick_is hc (b + 1 + 1) [100, 101] (by omega) (by omega) (by simp) (by simp)
  have ln : ∀ z : ZZ, (x.set i.toNat z).length = x.length := fun z => List.length_set
  unfold spec_l2Bent.f
  by_cases c0 : r = 0
  · refine ⟨_, b2, ev_call hx (ev_cong (fun k => by dsimp only; rw [ei, Option.bind_some, er, Option.bind_some, if_pos c0]) (ev_call hp (ev_is fun k => (if_pos i0).trans (if_pos i1)))), ?_, ?_, by omega, by omega⟩
    · rw [ln]; exact hs
    · rw [ln]; omega
  by_cases c1 : r = 1
  · refine ⟨_, _, ev_call hx (ev_is fun k => by dsimp only; rw [ei, Option.bind_some, er, Option.bind_some, if_neg c0, if_pos c1, e1, Option.bind_some, if_pos i0, if_pos i1]), ?_, ?_, by omega, by omega⟩
    · rw [ln]; exact hs
    · rw [ln]; omega
  by_cases c2 : r = 2
  · refine ⟨_, _, ev_call hx (ev_is fun k => by dsimp only; rw [ei, Option.bind_some, er, Option.bind_some, if_neg c0, if_neg c1, if_pos c2, e2, Option.bind_some, if_pos i0, if_pos i1]), ?_, ?_, by omega, by omega⟩
    · rw [ln]; exact hs
    · rw [ln]; omega
  by_cases c3 : r = 3
  · refine ⟨_, _, ev_call hx (ev_is fun k => by dsimp only; rw [ei, Option.bind_some, er, Option.bind_some, if_neg c0, if_neg c1, if_neg c2, if_pos c3, e3, Option.bind_some, if_pos i0, if_pos i1]), ?_, ?_, by omega, by omega⟩
    · rw [ln]; exact hs
    · rw [ln]; omega
  by_cases c4 : r = 4
  · refine ⟨_, _, ev_call hx (ev_is fun k => by dsimp only; rw [ei, Option.bind_some, er, Option.bind_some, if_neg c0, if_neg c1, if_neg c2, if_neg c3, if_pos c4, e4, Option.bind_some, if_pos i0, if_pos i1]), ?_, ?_, by omega, by omega⟩
    · rw [ln]; exact hs
    · rw [ln]; omega
  by_cases c5 : r = 5
  · refine ⟨List.replicate 21 z44, b + 1 + 1, ev_call hx (ev_is fun k => by dsimp only; rw [ei, Option.bind_some, er, Option.bind_some, if_neg c0, if_neg c1, if_neg c2, if_neg c3, if_neg c4, if_pos c5, if_pos (by omega)]), by simp, by simp, by omega, by omega⟩
  · exact ⟨x, b + 1 + 1, ev_call hx (ev_is fun k => by dsimp only; rw [ei, Option.bind_some, er, Option.bind_some, if_neg c0, if_neg c1, if_neg c2, if_neg c3, if_neg c4, if_neg c5]), hs, by omega, by omega, by omega⟩
end Go.Proofs.YtajlnffefoeppaaDoor.Pure

/- FnOwned: who is gone owns nothing any more, and nobody else loses anything: for every code. No condition. -/
namespace Go.Proofs.YtajlnffefoeppaaDoor.Pure
open Go.RowKit Go.Proofs.YtajlnffefoeppaaDoor.Qa Go.Proofs.YtajlnffefoeppaaDoorW.PrintWords Go.Proofs.YtajlnffefoeppaaDoorW.PrintLast Go.Proofs.YtajlnffefoeppaaDoor.Aid
theorem lwHas_l0 (l : List Int) (v : Int) (hl : l.length ≤ 1000) (d : Nat) : ∀ (i : Nat), i + d = l.length → Ev (fun k => laws_lwHas.l0 k l v (i : Int)) (decide (v ∈ l.drop i)) := by
  induction d with
  | zero =>
    intro i h
    rw [drop_end (by omega)]
    exact ev_done fun k => by simp only [laws_lwHas.l0]; rw [if_neg (by omega)]; simp
  | succ d ih =>
    intro i h
    have hi : i < l.length := by omega
    rw [drop_at hi]
    by_cases e : l[i] = v
    · refine ev_done fun k => ?_
      simp only [laws_lwHas.l0]
      rw [if_pos (by omega), if_pos (by omega), rd_at hi, if_pos e, decide_eq_true (show v ∈ l[i] :: l.drop (i + 1) by rw [e]; simp)]
    · have e2 : decide (v ∈ l[i] :: l.drop (i + 1)) = decide (v ∈ l.drop (i + 1)) := decide_eq_decide.2 (by rw [List.mem_cons]; exact ⟨fun c => c.resolve_left (fun q => e q.symm), .inr⟩)
      rw [e2]
      refine ev_step _ (fun k => ?_) (ih (i + 1) (by omega))
      simp only [laws_lwHas.l0]
      rw [if_pos (by omega), if_pos (by omega), rd_at hi, if_neg e, wrap_up hi (by omega)]
theorem lwHas_is (l : List Int) (v : Int) (hl : l.length ≤ 1000) : Ev (fun k => laws_lwHas.f k l v) (decide (v ∈ l)) := lwHas_l0 l v hl l.length 0 (by omega)
theorem drop_mem {ids : List Int} {l : List ZZ} {z : ZZ} : z ∈ dropL ids l ↔ z ∈ l ∧ goneB ids z = false := by
  unfold dropL
  rw [List.mem_filter]
  simp
theorem gone_free {ids : List Int} {z : ZZ} (h : z.f3 = 0) : goneB ids z = false := by unfold goneB; simp [h]
theorem drop_tree {l : List ZZ} (h : TreeM l) (ids : List Int) : TreeM (dropL ids l) := by
  refine ⟨Nat.le_trans (dropL_len ids l) h.few, fun z hz => h.good z (drop_mem.1 hz).1, h.rise.sublist List.filter_sublist, ?_, fun z hz => ?_⟩
  · obtain ⟨t, ht, e⟩ := h.top
    exact ⟨t, drop_mem.2 ⟨ht, gone_free (h.top_free ht e)⟩, e⟩
  · obtain ⟨y, hy, e, h0⟩ := h.ups z (drop_mem.1 hz).1
    exact ⟨y, drop_mem.2 ⟨hy, gone_free h0⟩, e, h0⟩
theorem here_drop {l : List ZZ} (h : TreeM l) (ids : List Int) {z : ZZ} (hz : z ∈ l) : hereK pk (dropL ids l) (pk z) = !goneB ids z := by
  have hd := (drop_tree h ids).rise
  cases c : goneB ids z with
  | false => exact (here_iff hd (pk z)).2 ⟨z, drop_mem.2 ⟨hz, c⟩, rfl⟩
  | true =>
    refine Bool.eq_false_iff.2 fun hh => ?_
    obtain ⟨y, hy, e⟩ := (here_iff hd (pk z)).1 hh
    obtain ⟨hy1, hy2⟩ := drop_mem.1 hy
    rw [same_key h.rise hy1 hz e, c] at hy2
    cases hy2
theorem owned_l0 {l : List ZZ} (h : TreeM l) (ids : List Int) (hi : ids.length ≤ 9) (p : ByteArray) (d : Nat) : ∀ (i : Nat), i + d = l.length → Ev (fun k => laws_FnOwned.l0 k l ids (((i - (dropL ids (l.take i)).length : Nat)) : Int) (i : Int) 0 p (dropL ids l)) true := by
  have hf := h.few
  have hT := drop_tree h ids
  have hc := hT.code
  induction d with
  | zero =>
    intro i hd
    rw [List.take_of_length_le (by omega)]
    have hl := dropL_len ids l
    have w : wrap64 ((l.length : Int) - ((i - (dropL ids l).length : Nat) : Int)) = ((dropL ids l).length : Int) := by
      rw [wrap_id (by omega) (by omega)]
      omega
    have ht := treeR_impl (dropL ids l)
    rw [hc] at ht
    refine ev_step _ (fun k => by simp only [laws_FnOwned.l0]; exact if_neg (by omega)) (ev_call ht (ev_is fun k => ?_))
    rw [if_pos rfl, w]
    simp
  | succ d ih =>
    intro i hd
    have hil : i < l.length := by omega
    have hz := List.getElem_mem hil
    have hrd := rd_T44_at hil
    have wi := wrap_up hil (by omega)
    have hq := (zOwn_ok (h.good _ hz)).1
    have hask : askT (dropL ids l) l[i].f0 = 0 := by unfold askT; rw [if_pos hc]; exact hq
    have hg := GetZ_impl (dropL ids l) l[i].f0
    have hh : hereK pk (dropL ids l) l[i].f0.data.toList = !goneB ids l[i] := here_drop h ids hz
    have htk := take_drop (ids := ids) hil
    have hle := dropL_len ids (l.take i)
    rw [List.length_take] at hle
    have nxt := ih (i + 1) (by omega)
    have hb : Ev (fun k => laws_FnOwned.j4 k l ids (((i - (dropL ids (l.take i)).length : Nat)) : Int) (i : Int) ((getR (dropL ids l) l[i].f0).1 == 0) (goneB ids l[i]) 0 p (dropL ids l)) true := by
      unfold getR
      rw [if_pos hask, hh]
      cases c : goneB ids l[i] with
      | true =>
        rw [htk, dropL_gone _ c] at nxt
        have e : (((i + 1 - (dropL ids (l.take i) ++ dropL ids []).length : Nat)) : Int) = wrap64 ((((i - (dropL ids (l.take i)).length : Nat)) : Int) + 1) := by
          rw [wrap_id (by omega) (by omega)]
          simp only [dropL, List.filter_nil, List.append_nil] at hle ⊢
          omega
        rw [e] at nxt
        refine ev_step _ (fun k => ?_) nxt
        simp only [laws_FnOwned.j4]
        rw [if_neg (by simp [badZ]), if_pos trivial, wi]
      | false =>
        rw [htk, dropL_keep _ c] at nxt
        have e : (((i + 1 - (dropL ids (l.take i) ++ l[i] :: dropL ids []).length : Nat)) : Int) = (((i - (dropL ids (l.take i)).length : Nat)) : Int) := by
          simp only [dropL, List.filter_nil, List.length_append, List.length_cons, List.length_nil] at hle ⊢
          omega
        rw [e] at nxt
        refine ev_step _ (fun k => ?_) nxt
        simp only [laws_FnOwned.j4]
        rw [if_neg (by simp), if_neg (by decide), wi]
    refine ev_step (fun k => laws_FnOwned.j3 k l ids (((i - (dropL ids (l.take i)).length : Nat)) : Int) (i : Int) 0 p (dropL ids l)) (fun k => by simp only [laws_FnOwned.l0]; exact if_pos (by omega)) ?_
    refine ev_step (fun k => (impl_GetZ.f k (dropL ids l) l[i].f0).bind fun bt121 => if l[i].f3 = 0 then laws_FnOwned.j4 k l ids (((i - (dropL ids (l.take i)).length : Nat)) : Int) (i : Int) (bt121.1 == 0) false 0 p (dropL ids l) else (laws_lwHas.f k ids l[i].f3).bind fun t128 => laws_FnOwned.j4 k l ids (((i - (dropL ids (l.take i)).length : Nat)) : Int) (i : Int) (bt121.1 == 0) t128 0 p (dropL ids l)) (fun k => ?_) (ev_call hg ?_)
    · simp only [laws_FnOwned.j3]
      rw [if_pos (by omega), if_pos (by omega), hrd]
    · by_cases h0 : l[i].f3 = 0
      · rw [gone_free h0] at hb
        exact ev_cong (fun k => if_pos h0) hb
      · have e : goneB ids l[i] = decide (l[i].f3 ∈ ids) := by unfold goneB; simp [h0]
        rw [e] at hb
        exact ev_cong (fun k => if_neg h0) (ev_call (lwHas_is ids l[i].f3 (by omega)) hb)
theorem drawIds_l0 {c : List Int} (hc : CodeT c) (x : List ZZ) (d : Nat) : ∀ (ids : List Int) (a : Int), ids.length + d ≤ 10 → 0 ≤ a → a + d ≤ 600000 → ∃ r : List ZZ × List Int, Ev (fun k => spec_DrawDropOwned.l0 k x ids (d : Int) c a) r := by
  induction d with
  | zero =>
    intro ids a hi h0 h1
    obtain ⟨b, hb⟩ := chance_is hc a 14 h0 (by omega) (by omega) (by omega)
    cases b with
    | true => exact ⟨(x, List.replicate 10 0), ev_done fun k => by simp only [spec_DrawDropOwned.l0]; rw [if_neg (by omega), hb, Option.bind_some, if_pos rfl, if_pos (by omega)]⟩
    | false => exact ⟨(x, ids), ev_done fun k => by simp only [spec_DrawDropOwned.l0]; rw [if_neg (by omega), hb, Option.bind_some, if_neg (by simp)]⟩
  | succ d ih =>
    intro ids a hi h0 h1
    obtain ⟨r, hr, _, _⟩ := next_is hc a 4 h0 (by omega) (by omega) (by omega)
    obtain ⟨q, hq⟩ := ih (ids ++ [r]) (a + 1) (by simp; omega) (by omega) (by omega)
    have wd : wrap64 (((d + 1 : Nat) : Int) - 1) = (d : Int) := by rw [wrap_id (by omega) (by omega)]; omega
    refine ⟨q, ev_step _ (fun k => ?_) hq⟩
    simp only [spec_DrawDropOwned.l0]
    rw [if_pos (by omega), hr, Option.bind_some, if_pos (by omega), wd]
theorem drawOwned_ev {c : List Int} (hc : CodeT c) : ∃ r : List ZZ × List Int, Ev (fun k => spec_DrawDropOwned.f k c) r := by
  obtain ⟨x, b, hx, _, _, hb0, hb1⟩ := tBent_ev hc 0 (by omega) (by omega)
  obtain ⟨r, hr, r0, r1⟩ := next_is hc b 3 (by omega) (by omega) (by omega) (by omega)
  obtain ⟨d, rfl⟩ : ∃ d : Nat, r = (d : Int) := ⟨r.toNat, by omega⟩
  obtain ⟨q, hq⟩ := drawIds_l0 hc x d [] (b + 1) (by simp; omega) (by omega) (by omega)
  refine ⟨q, ?_⟩
  unfold spec_DrawDropOwned.f spec_l1Source.f
  refine ev_cong (fun k => by rw [Option.bind_some]) (ev_call hx (ev_cong (fun k => by dsimp only; rw [hr, Option.bind_some]) hq))
theorem FnOwned (l0 : List Int) (h : l0.length ≤ 9223372036854775807 ∧ ∀ y_ ∈ l0, (Lit.int .u8 y_).wf = true) : ∃ k, laws_FnOwned.f k l0 = some true := by
  refine Ev.rounds ?_
  unfold laws_FnOwned.f laws_lwBig.f
  by_cases hb : (l0.length : Int) > 1048576
  · exact ev_is fun k => by rw [Option.bind_some, if_pos (decide_eq_true hb)]
  · refine ev_cong (fun k => by rw [Option.bind_some, if_neg (by simpa using hb)]) ?_
    obtain ⟨⟨l, ids⟩, hd⟩ := drawOwned_ev (code_of h hb)
    refine ev_step _ (fun k => by simp only [laws_FnOwned.j0]; rfl) (ev_call hd (ev_call (DropOwned_impl l ids) ?_))
    by_cases g : (dropR l ids).1 = 0
    · refine ev_cong (fun k => if_pos g) ?_
      have ht : treeR l = 0 := Decidable.byContradiction fun c => by
        unfold dropR at g
        rw [if_neg c] at g
        exact c g
      have h9 : ¬ ids.length > 9 := fun c => by
        unfold dropR at g
        rw [if_pos ht, if_pos c] at g
        cases g
      have e : dropR l ids = (0, (⟨#[]⟩ : ByteArray), dropL ids l) := by unfold dropR; rw [if_pos ht, if_neg h9]
      rw [e]
      refine ev_step _ (fun k => by simp only [laws_FnOwned.j1]; rfl) ?_
      exact owned_l0 (tree_m ht) ids (by omega) _ l.length 0 (by omega)
    · exact ev_cong (fun k => if_neg g) (ev_call (DropOwned_spec l ids) (ev_is fun k => by simp))
end Go.Proofs.YtajlnffefoeppaaDoor.Pure

/- For every input the law loop.example/g00369/laws.FnOwned returns true, and every argument reads behind the call as it read before. No condition. -/
namespace Go.Proofs.YtajlnffefoeppaaDoor.fnOwned
open Go.ChangeShapes Go.WideShapes Go.ChangeAt Go.RowKit Go.Proofs.YtajlnffefoeppaaDoor.Qa Go.Proofs.YtajlnffefoeppaaDoor.Tro Go.Proofs.YtajlnffefoeppaaDoorW.PrintWords
open Go.ChangeMaps (open_string shut_string)
set_option linter.unusedVariables false
set_option linter.unusedSimpArgs false
theorem own : ownKnob Tryd.prog.godebug = none := by kernel_rfl
theorem laidOut : laidOutB Tryd.prog = true := by kernel_rfl
set_option maxRecDepth 100000 in
theorem lifted (os : Os) (started : os.Started) (H : Type) (enc : TypeId × Value → H) :
    ReturnsInHanded {} Tryd.checked os 4 .any (fun w args => (Rows.fnOwnedSpec.pre enc Tryd.prog Tryd.f4 [] false w args ∧ laidMetH Tryd.prog Rows.fnOwnedRow.laid w) ∧ sizedMet enc Tryd.prog Tryd.f4 (OpenSpec.ofChange Rows.fnOwnedSpec) false w args) (Rows.fnOwnedSpec.post enc Tryd.prog Tryd.f4 false true false false) := by
  refine returnsInHanded_of_change_and (C := Tryd.checked) (X := fun w _ => laidMetH Tryd.prog Rows.fnOwnedRow.laid w) (fun _ _ _ hh h => h.of_heap hh) own started (by kernel_rfl) Tryd.func4
    (ChangeSpec.witness_shaped (enc := enc) (C := Tryd.checked) (os := os) (X := fun w _ => laidMetH Tryd.prog Rows.fnOwnedRow.laid w) false (World.laidAll Tryd.prog os Rows.fnOwnedRow.laid) #[.slice none 0 0] 8 (World.laidAll_os _ _ _)
      (World.shaped_of_ZipB (by kernel_rfl) (by kernel_rfl)) (by kernel_rfl) (by kernel_rfl) (by kernel_rfl)
      (by rw [MakeChecks.laidMetH_plain _ _ _ (by kernel_rfl)]; exact laidMet_laidAll _ (by kernel_rfl) (by kernel_rfl))) ?_
  intro W base args ds gs before hval0 hW _ _ hL _
  have hval : ∀ (j : Nat) t v, Tryd.f4.params[j]? = some t → args[j]? = some v → Value.okWide Tryd.prog W .any base t v := hval0
  have hW' := hW
  obtain ⟨p, q, hA0, hV, rfl, hfz, hnd⟩ := hW
  have hA : DataW.TrodAll enc Tryd.prog W 0 (fun _ => true) true Tryd.f4.params.toList args.toList ds p := hA0
  rw [Tryd.params4] at hA hval
  obtain ⟨v0, vs0, d0, ds0, p0, q0, hargs, rfl, rfl, h0, r0⟩ := trodAll_cons hA
  obtain ⟨rfl, rfl, rfl⟩ := trodAll_nil r0
  obtain rfl : args = #[v0] := by cases args; simp_all
  obtain ⟨rfl, rfl⟩ := trodVars_none hV
  have k0 := h0
  have lt0 : ∀ x ∈ p0, x.block < W.heap.size := by obtain ⟨m, hm⟩ := k0; exact DataW.trod_lt m _ _ _ hm
  obtain ⟨a0, len0, cap0, rfl⟩ := okWide_slice Tryd.underlying38 (hval 0 38 v0 rfl rfl)
  obtain ⟨fuel0, hf0⟩ := h0
  obtain ⟨l0, hK0, hg0⟩ := (tr_slice Tryd.underlying38 (by kernel_rfl) (tr_int Tryd.underlying5)) enc W _ _ _ hf0
  obtain ⟨A0, c0, hcs0, hl0, hC0⟩ := hK0
  simp only [Value.cells, List.cons.injEq, Value.slice.injEq, and_true] at hcs0
  obtain ⟨rfl, rfl, rfl⟩ := hcs0
  obtain ⟨k, hk⟩ := Pure.FnOwned l0 hg0
  refine (laws_FnOwned.calls k _ _ l0 true W hC0 hl0 hk rfl).mono fun e W' hE => ?_
  obtain ⟨he, hd⟩ := hE
  have bel : Below W.heap.size W W' := hd
  subst he
  exact ⟨_, rfl, _, _, _, [], _, [], hW', trodAll_mk1 (shut_bool Tryd.underlying4 _), (trodAll_cons_mk (Below.trod laidOut (by kernel_rfl) (of_decide_eq_true (by kernel_rfl)) k0 bel lt0) trodAll_mk0), rfl, bel.frame _, fun h => by cases h⟩
theorem over : Rows.fnOwnedRow.holds Tryd.pinned (OpenSpec.ofChange Rows.fnOwnedSpec) :=
  OpenClaim.holds_of_wide 4 Tryd.f4 rfl rfl rfl rfl rfl rfl rfl ⟨rfl, rfl, rfl, rfl, rfl⟩ rfl rfl rfl rfl rfl (by kernel_rfl) Tryd.func4 (by kernel_rfl)
    (of_decide_eq_true (by kernel_rfl)) (by unfold Func.isWrapper; first | (rw [if_pos (by decide +kernel)]; kernel_rfl) | (rw [if_neg (by decide +kernel)]; exact ⟨rfl, rfl⟩))
    (fun os started H enc _ => lifted os started H enc)
theorem proved : Rows.FnOwnedCardSaid :=
  Claim7.holds_tied_plain_at .later [] [.data, .pinned] true (true, "861c6fb4279ed6e3dfecf8c9d75eedd91f0ed84220785ae413db87a7445cdf03") false over (fun _ h => by cases h) (by kernel_rfl) (fun _ h => by cases h) fnOwned_row_tie rfl ⟨rfl, rfl⟩ (by kernel_rfl) rfl
    (fun f fn hf hfn => by
      obtain rfl : f = 4 := Option.some.inj ((show Tryd.prog.funcNamed "loop.example/g00369/laws.FnOwned" = some 4 by kernel_rfl).symm.trans hf) |>.symm
      obtain rfl : fn = Tryd.f4 := (Option.some.inj (Tryd.func4.symm.trans hfn)).symm
      exact ⟨by kernel_rfl, fun j t ht => by
        rw [Tryd.params4] at ht
        have hm : t ∈ [38] := by simpa using Array.mem_of_getElem? ht
        have hall : ([38].all fun u => !Tryd.prog.wantsStandIn u) = true := by kernel_rfl
        exact (show Tryd.prog.wantsStandIn t = false by simpa using List.all_eq_true.1 hall t hm)⟩)
    (by kernel_rfl)
#print axioms proved
end Go.Proofs.YtajlnffefoeppaaDoor.fnOwned
namespace Go.Proofs.YtajlnffefoeppaaDoor
/-- The row, under a short name, for the claim. -/
theorem fnOwned_holds : Rows.FnOwnedCardSaid := fnOwned.proved
end Go.Proofs.YtajlnffefoeppaaDoor
