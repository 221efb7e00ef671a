import Derived.Test.YtbeghfdlbokhkaaDoorQcx0
import Derived.Test.YtbeghfdlbokhkaaDoorQcx2
import Derived.Test.YtbeghfdlbokhkaaDoorQcx11
import Derived.Test.YtbeghfdlbokhkaaDoorQcx29
import Derived.Test.YtbeghfdlbokhkaaDoorQcx30
namespace Go.Proofs.YtbeghfdlbokhkaaDoor.Qc
open Go.RowKit Go.Proofs.YtbeghfdlbokhkaaDoorW.PrintWords Go.Proofs.YtbeghfdlbokhkaaDoorW.PrintLast Go.Proofs.YtbeghfdlbokhkaaDoorW.PrintMore
attribute [local go_sem] max2_int min2_int max_two min_two max_three min_three max_four min_four
set_option linter.unusedVariables false
set_option linter.unusedSimpArgs false

/-- A state of type 36 at block g of W; what its slices lead to came in by w0. -/
def IsS36 (w0 W : World) (g : Nat) (f0 : Int) (f1 : Int) (f2 : Int) (f3 : List (S26)) : Prop := ∃ A3 c3, W.heap[g]? = some (.cells #[.int .i64 f0, .int .i64 f1, .int .i64 f2, .slice A3 f3.length c3] 36 (0, 0)) ∧ w0.heap.size ≤ g ∧ Kd.C k26 w0 A3 f3.length f3
theorem IsS36.grown {w0 W : World} {g : Nat} {f0 : Int} {f1 : Int} {f2 : Int} {f3 : List (S26)} {W1 : World} {row : Option Nat} (h : IsS36 w0 W g f0 f1 f2 f3) (hw : W.grownBy W1 row) (hne : some g ≠ row) : IsS36 w0 W1 g f0 f1 f2 f3 := by
 obtain ⟨A3, c3, hb, hg, hr3⟩ := h
 exact ⟨A3, c3, blk_grown hb hw hne, hg, hr3⟩
theorem IsS36.own_neN {w0 W : World} {g : Nat} {f0 : Int} {f1 : Int} {f2 : Int} {f3 : List (S26)} {α : Type} {d : Kd α} {e : Nat} {base : Nat} {ok : Nat → Prop} {v : Value} {xs : List α} (h : IsS36 w0 W g f0 f1 f2 f3) (ho : Kd.N d e W base ok v xs) (ht : e ≠ 36) : some g ≠ v.ownBlock := by
 obtain ⟨A3, c3, hb, hg, hr3⟩ := h
 exact Kd.N_ne ho hb ht
theorem IsS36.fresh {w0 W : World} {g : Nat} {f0 : Int} {f1 : Int} {f2 : Int} {f3 : List (S26)} (h : IsS36 w0 W g f0 f1 f2 f3) : ∀ k, W.heap.size ≤ k → k ≠ g := by
 obtain ⟨A3, c3, hb, hg, hr3⟩ := h
 exact Kd.freshB hb
theorem IsS36.kept {w0 W : World} {g : Nat} {f0 : Int} {f1 : Int} {f2 : Int} {f3 : List (S26)} {W1 : World} {S : Nat → Prop} (h : IsS36 w0 W g f0 f1 f2 f3) (hk : Kept W W1 S) (hne : ¬ S g) : IsS36 w0 W1 g f0 f1 f2 f3 := by
 obtain ⟨A3, c3, hb, hg, hr3⟩ := h
 exact ⟨A3, c3, blk_kept hb hk hne, hg, hr3⟩
theorem IsS36.below {w0 W : World} {g : Nat} {f0 : Int} {f1 : Int} {f2 : Int} {f3 : List (S26)} {W1 : World} (h : IsS36 w0 W g f0 f1 f2 f3) (hw : Below W.heap.size W W1) : IsS36 w0 W1 g f0 f1 f2 f3 := h.grown (grown_of_below hw none) (by simp)
theorem IsS36.alloc {w0 W : World} {g : Nat} {f0 : Int} {f1 : Int} {f2 : Int} {f3 : List (S26)} (h : IsS36 w0 W g f0 f1 f2 f3) (o : Obj) : IsS36 w0 (W.alloc o) g f0 f1 f2 f3 := h.below (below_alloc (Below.refl _ _) o)
theorem IsS36.drewN {w0 W : World} {g : Nat} {f0 : Int} {f1 : Int} {f2 : Int} {f3 : List (S26)} (h : IsS36 w0 W g f0 f1 f2 f3) (m : Nat) : IsS36 w0 (W.drewN m) g f0 f1 f2 f3 := h
theorem IsS36.drew {w0 W : World} {g : Nat} {f0 : Int} {f1 : Int} {f2 : Int} {f3 : List (S26)} (h : IsS36 w0 W g f0 f1 f2 f3) : IsS36 w0 W.drew g f0 f1 f2 f3 := h
theorem IsS36.at_ {w0 W : World} {g : Nat} {f0 : Int} {f1 : Int} {f2 : Int} {f3 : List (S26)} {w' : World} {m : Nat} (hq : W.drewN m = w') (h : IsS36 w0 W g f0 f1 f2 f3) : IsS36 w0 w' g f0 f1 f2 f3 := by subst hq; exact IsS36.drewN h m
theorem IsS36.apart {w0 W : World} {g : Nat} {f0 : Int} {f1 : Int} {f2 : Int} {f3 : List (S26)} {α : Type} {d : Kd α} {e : Nat} {base : Nat} {ok : Nat → Prop} {v : Value} {xs : List α} (h : IsS36 w0 W g f0 f1 f2 f3) (ho : d.R e W base ok v xs) (ht : ∀ q, q ∈ e :: d.E → q ≠ 36) : d.R e W base (fun k => ok k ∧ k ≠ g) v xs := by
 obtain ⟨A3, c3, hb, hg, hr3⟩ := h
 exact Kd.R_types ho hb ht
theorem IsS36.own_ne {w0 W : World} {g : Nat} {f0 : Int} {f1 : Int} {f2 : Int} {f3 : List (S26)} {α : Type} {d : Kd α} {e : Nat} {base : Nat} {ok : Nat → Prop} {v : Value} {xs : List α} (h : IsS36 w0 W g f0 f1 f2 f3) (ho : d.R e W base ok v xs) (ht : e ≠ 36) : some g ≠ v.ownBlock := by
 obtain ⟨A3, c3, hb, hg, hr3⟩ := h
 exact Kd.R_ne ho hb ht
theorem IsS36.apartQ {w0 W : World} {g : Nat} {f0 : Int} {f1 : Int} {f2 : Int} {f3 : List (S26)} {α : Type} {d : Kd α} {e : Nat} {base : Nat} {ok : Nat → Prop} {v : Value} {xs : List α} (h : IsS36 w0 W g f0 f1 f2 f3) (ho : d.Q e W base ok v xs) (ht : ∀ q, q ∈ e :: d.E → q ≠ 36) : d.Q e W base (fun k => ok k ∧ k ≠ g) v xs := by
 obtain ⟨A3, c3, hb, hg, hr3⟩ := h
 exact Kd.Q_types ho hb ht
theorem IsS36.own_neQ {w0 W : World} {g : Nat} {f0 : Int} {f1 : Int} {f2 : Int} {f3 : List (S26)} {α : Type} {d : Kd α} {e : Nat} {base : Nat} {ok : Nat → Prop} {v : Value} {xs : List α} (h : IsS36 w0 W g f0 f1 f2 f3) (ho : d.Q e W base ok v xs) (ht : e ≠ 36) : some g ≠ v.ownBlock := by
 obtain ⟨A3, c3, hb, hg, hr3⟩ := h
 exact Kd.Q_ne ho hb ht
theorem IsS36.apartS {w0 W : World} {g : Nat} {f0 : Int} {f1 : Int} {f2 : Int} {f3 : List (S26)} {α : Type} {d : Kd α} {e : Nat} {base : Nat} {ok : Nat → Prop} {v : Value} {xs : List α} (h : IsS36 w0 W g f0 f1 f2 f3) (ho : d.S e W base ok v xs) (ht : ∀ q, q ∈ e :: d.E → q ≠ 36) : d.S e W base (fun k => ok k ∧ k ≠ g) v xs := by
 obtain ⟨A3, c3, hb, hg, hr3⟩ := h
 exact Kd.S_types ho hb ht
theorem IsS36.own_neS {w0 W : World} {g : Nat} {f0 : Int} {f1 : Int} {f2 : Int} {f3 : List (S26)} {α : Type} {d : Kd α} {e : Nat} {base : Nat} {ok : Nat → Prop} {v : Value} {xs : List α} (h : IsS36 w0 W g f0 f1 f2 f3) (ho : d.S e W base ok v xs) (ht : e ≠ 36) : some g ≠ v.ownBlock := by
 obtain ⟨A3, c3, hb, hg, hr3⟩ := h
 exact Kd.S_ne ho hb ht
theorem IsS36.lt {w0 W : World} {g : Nat} {f0 : Int} {f1 : Int} {f2 : Int} {f3 : List (S26)} (h : IsS36 w0 W g f0 f1 f2 f3) : g < W.heap.size := by
 obtain ⟨A3, c3, hb, hg, hr3⟩ := h
 exact blk_lt hb
theorem IsS36.ge {w0 W : World} {g : Nat} {f0 : Int} {f1 : Int} {f2 : Int} {f3 : List (S26)} (h : IsS36 w0 W g f0 f1 f2 f3) : w0.heap.size ≤ g := by
 obtain ⟨A3, c3, hb, hg, hr3⟩ := h
 exact hg
theorem IsS36.ne_blk {w0 W : World} {g : Nat} {f0 : Int} {f1 : Int} {f2 : Int} {f3 : List (S26)} {a : Nat} {cs : Array Value} {t : TypeId} {fr : Nat × Nat} (h : IsS36 w0 W g f0 f1 f2 f3) (hb2 : W.heap[a]? = some (.cells cs t fr)) (ht : t ≠ 36) : g ≠ a := by
 obtain ⟨A3, c3, hb, hg, hr3⟩ := h
 rintro rfl
 rw [hb] at hb2
 injection hb2 with hb2
 injection hb2 with _ ht2
 exact ht ht2.symm
theorem IsS36.far {w0 W : World} {g : Nat} {f0 : Int} {f1 : Int} {f2 : Int} {f3 : List (S26)} {p : Addr} (h : IsS36 w0 W g f0 f1 f2 f3) (hne : g ≠ p.block) (u : Value) : IsS36 w0 (W.setCell p u) g f0 f1 f2 f3 := by
 obtain ⟨A3, c3, hb, hg, hr3⟩ := h
 exact ⟨A3, c3, blk_far hb hne u, hg, hr3⟩
theorem cellS36_0 {W : World} {g : Nat} {A3 : Option Addr} {c3 : Nat} {f0 : Int} {f1 : Int} {f2 : Int} {f3 : List (S26)} (h : W.heap[g]? = some (.cells #[.int .i64 f0, .int .i64 f1, .int .i64 f2, .slice A3 f3.length c3] 36 (0, 0))) : W.cell? ⟨g, 0, none⟩ = some (.int .i64 f0) := (blk_cell h 0).trans rfl
theorem IsS36.set_0 {w0 W : World} {g : Nat} {f0 : Int} {f1 : Int} {f2 : Int} {f3 : List (S26)} (h : IsS36 w0 W g f0 f1 f2 f3) (x : Int) : IsS36 w0 (W.setCell ⟨g, 0, none⟩ (.int .i64 x)) g x f1 f2 f3 := by
 obtain ⟨A3, c3, hb, hg, hr3⟩ := h
 exact ⟨A3, c3, by simpa using blk_set hb 0 (.int .i64 x), hg, hr3⟩
theorem cellS36_1 {W : World} {g : Nat} {A3 : Option Addr} {c3 : Nat} {f0 : Int} {f1 : Int} {f2 : Int} {f3 : List (S26)} (h : W.heap[g]? = some (.cells #[.int .i64 f0, .int .i64 f1, .int .i64 f2, .slice A3 f3.length c3] 36 (0, 0))) : W.cell? ⟨g, 1, none⟩ = some (.int .i64 f1) := (blk_cell h 1).trans rfl
theorem IsS36.set_1 {w0 W : World} {g : Nat} {f0 : Int} {f1 : Int} {f2 : Int} {f3 : List (S26)} (h : IsS36 w0 W g f0 f1 f2 f3) (x : Int) : IsS36 w0 (W.setCell ⟨g, 1, none⟩ (.int .i64 x)) g f0 x f2 f3 := by
 obtain ⟨A3, c3, hb, hg, hr3⟩ := h
 exact ⟨A3, c3, by simpa using blk_set hb 1 (.int .i64 x), hg, hr3⟩
theorem cellS36_2 {W : World} {g : Nat} {A3 : Option Addr} {c3 : Nat} {f0 : Int} {f1 : Int} {f2 : Int} {f3 : List (S26)} (h : W.heap[g]? = some (.cells #[.int .i64 f0, .int .i64 f1, .int .i64 f2, .slice A3 f3.length c3] 36 (0, 0))) : W.cell? ⟨g, 2, none⟩ = some (.int .i64 f2) := (blk_cell h 2).trans rfl
theorem IsS36.set_2 {w0 W : World} {g : Nat} {f0 : Int} {f1 : Int} {f2 : Int} {f3 : List (S26)} (h : IsS36 w0 W g f0 f1 f2 f3) (x : Int) : IsS36 w0 (W.setCell ⟨g, 2, none⟩ (.int .i64 x)) g f0 f1 x f3 := by
 obtain ⟨A3, c3, hb, hg, hr3⟩ := h
 exact ⟨A3, c3, by simpa using blk_set hb 2 (.int .i64 x), hg, hr3⟩
theorem cellS36_3 {W : World} {g : Nat} {A3 : Option Addr} {c3 : Nat} {f0 : Int} {f1 : Int} {f2 : Int} {f3 : List (S26)} (h : W.heap[g]? = some (.cells #[.int .i64 f0, .int .i64 f1, .int .i64 f2, .slice A3 f3.length c3] 36 (0, 0))) : W.cell? ⟨g, 3, none⟩ = some (.slice A3 f3.length c3) := (blk_cell h 3).trans rfl
theorem IsS36.new (w0 W : World) (A3 : Option Addr) (c3 : Nat) (f0 : Int) (f1 : Int) (f2 : Int) (f3 : List (S26)) (hB : Below w0.heap.size w0 W) (hr3 : Kd.C k26 w0 A3 f3.length f3) : IsS36 w0 (W.alloc (.cells #[.int .i64 f0, .int .i64 f1, .int .i64 f2, .slice A3 f3.length c3] 36)) W.heap.size f0 f1 f2 f3 := ⟨A3, c3, by simpa using heap_alloc_new W _, hB.size, hr3⟩
set_option maxHeartbeats 8000000
set_option maxRecDepth 100000

/-! ### spec_l5Request: function 22 -/
mutual
def spec_l5Request.j0 : Nat → Bool → Int → Int → Int → List (S26) → Option (Int × Int × Int × Int)
 | 0, _, _, _, _, _ => none
 | k + 1, x27, x1000, x1001, x1002, x1003 => if x27 = true then (some (3, x1000, x1001, x1002)) else (if (x1003.length : Int) < 1 then (spec_l5Request.j1 k true x1000 x1001 x1002 x1003) else (spec_l5Request.j1 k (decide ((x1003.length : Int) > 3)) x1000 x1001 x1002 x1003))
def spec_l5Request.j1 : Nat → Bool → Int → Int → Int → List (S26) → Option (Int × Int × Int × Int)
 | 0, _, _, _, _, _ => none
 | k + 1, x41, x1000, x1001, x1002, x1003 => if x41 = true then (some (2, x1000, x1001, x1002)) else (spec_l5Request.l0 k 0 x1000 x1001 x1002 x1003)
def spec_l5Request.l0 : Nat → Int → Int → Int → Int → List (S26) → Option (Int × Int × Int × Int)
 | 0, _, _, _, _, _ => none
 | k + 1, x3, x1000, x1001, x1002, x1003 => if x3 < (x1003.length : Int) then (if 0 ≤ x3 then ((spec_l5OpV.f k ((rd_T26 x1003 x3).f0) ((rd_T26 x1003 x3).f1) ((rd_T26 x1003 x3).f2) ((rd_T26 x1003 x3).f3) ((rd_T26 x1003 x3).f4) ((rd_T26 x1003 x3).f5)).bind fun t105 => (if t105 = 0 then (spec_l5Request.l0 k (wrap64 (x3 + 1)) x1000 x1001 x1002 x1003) else (some (t105, x1000, x1001, x1002)))) else (none)) else (spec_l5Request.l1 k 0 x1000 x1001 x1002 x1003)
def spec_l5Request.l1 : Nat → Int → Int → Int → Int → List (S26) → Option (Int × Int × Int × Int)
 | 0, _, _, _, _, _ => none
 | k + 1, x5, x1000, x1001, x1002, x1003 => if x5 < (x1003.length : Int) then (spec_l5Request.j4 k x5 (decide ((x1003.length : Int) > 1)) x1000 x1001 x1002 x1003) else (spec_l5Request.j4 k x5 false x1000 x1001 x1002 x1003)
def spec_l5Request.j4 : Nat → Int → Bool → Int → Int → Int → List (S26) → Option (Int × Int × Int × Int)
 | 0, _, _, _, _, _, _ => none
 | k + 1, x5, x75, x1000, x1001, x1002, x1003 => if x75 = true then (if 0 ≤ x5 then (if x5 < (x1003.length : Int) then (if ((rd_T26 x1003 x5).f0) ≤ 2 then (some (1, x1000, x1001, x1002)) else (spec_l5Request.l1 k (wrap64 (x5 + 1)) x1000 x1001 x1002 x1003)) else (none)) else (none)) else (some (0, x1000, x1001, x1002))
end
def spec_l5Request.f (k : Nat) (s0_0 : Int) (s0_1 : Int) (s0_2 : Int) (s0_3 : List (S26)) : Option (Int × Int × Int × Int) := (spec_l4Id.f s0_0).bind fun t101 => (if t101 = true then ((spec_l1In.f s0_1 1 99).bind fun t102 => (if t102 = true then ((spec_l4Now.f s0_2).bind fun t103 => (spec_l5Request.j0 k (!t103) s0_0 s0_1 s0_2 s0_3)) else (spec_l5Request.j0 k true s0_0 s0_1 s0_2 s0_3))) else (spec_l5Request.j0 k true s0_0 s0_1 s0_2 s0_3))
theorem spec_l5Request.mono_l : ∀ k, (∀ y0 y1 y2 y3 y4, LeO (spec_l5Request.j0 k y0 y1 y2 y3 y4) (spec_l5Request.j0 (k + 1) y0 y1 y2 y3 y4)) ∧ (∀ y0 y1 y2 y3 y4, LeO (spec_l5Request.j1 k y0 y1 y2 y3 y4) (spec_l5Request.j1 (k + 1) y0 y1 y2 y3 y4)) ∧ (∀ y0 y1 y2 y3 y4, LeO (spec_l5Request.l0 k y0 y1 y2 y3 y4) (spec_l5Request.l0 (k + 1) y0 y1 y2 y3 y4)) ∧ (∀ y0 y1 y2 y3 y4, LeO (spec_l5Request.l1 k y0 y1 y2 y3 y4) (spec_l5Request.l1 (k + 1) y0 y1 y2 y3 y4)) ∧ (∀ y0 y1 y2 y3 y4 y5, LeO (spec_l5Request.j4 k y0 y1 y2 y3 y4 y5) (spec_l5Request.j4 (k + 1) y0 y1 y2 y3 y4 y5))
 | 0 => ⟨fun _ _ _ _ _ r h => by simp [spec_l5Request.j0] at h, fun _ _ _ _ _ r h => by simp [spec_l5Request.j1] at h, fun _ _ _ _ _ r h => by simp [spec_l5Request.l0] at h, fun _ _ _ _ _ r h => by simp [spec_l5Request.l1] at h, fun _ _ _ _ _ _ r h => by simp [spec_l5Request.j4] at h⟩
 | k + 1 => by
  obtain ⟨ih0, ih1, ih2, ih3, ih4⟩ := spec_l5Request.mono_l k
  refine ⟨?_, ?_, ?_, ?_, ?_⟩
  ·
   intro y0 y1 y2 y3 y4
   unfold spec_l5Request.j0
   with_reducible repeat' first | exact ih0 _ _ _ _ _ | exact ih1 _ _ _ _ _ | exact ih2 _ _ _ _ _ | exact ih3 _ _ _ _ _ | exact ih4 _ _ _ _ _ _ | exact spec_l5OpV.mono _ _ _ _ _ _ _ | exact LeO.refl _ | exact LeO.none _ | refine LeO.ite ?_ ?_ | refine LeO.bind ?_ (fun _ => ?_)
  ·
   intro y0 y1 y2 y3 y4
   unfold spec_l5Request.j1
   with_reducible repeat' first | exact ih0 _ _ _ _ _ | exact ih1 _ _ _ _ _ | exact ih2 _ _ _ _ _ | exact ih3 _ _ _ _ _ | exact ih4 _ _ _ _ _ _ | exact spec_l5OpV.mono _ _ _ _ _ _ _ | exact LeO.refl _ | exact LeO.none _ | refine LeO.ite ?_ ?_ | refine LeO.bind ?_ (fun _ => ?_)
  ·
   intro y0 y1 y2 y3 y4
   unfold spec_l5Request.l0
   with_reducible repeat' first | exact ih0 _ _ _ _ _ | exact ih1 _ _ _ _ _ | exact ih2 _ _ _ _ _ | exact ih3 _ _ _ _ _ | exact ih4 _ _ _ _ _ _ | exact spec_l5OpV.mono _ _ _ _ _ _ _ | exact LeO.refl _ | exact LeO.none _ | refine LeO.ite ?_ ?_ | refine LeO.bind ?_ (fun _ => ?_)
  ·
   intro y0 y1 y2 y3 y4
   unfold spec_l5Request.l1
   with_reducible repeat' first | exact ih0 _ _ _ _ _ | exact ih1 _ _ _ _ _ | exact ih2 _ _ _ _ _ | exact ih3 _ _ _ _ _ | exact ih4 _ _ _ _ _ _ | exact spec_l5OpV.mono _ _ _ _ _ _ _ | exact LeO.refl _ | exact LeO.none _ | refine LeO.ite ?_ ?_ | refine LeO.bind ?_ (fun _ => ?_)
  ·
   intro y0 y1 y2 y3 y4 y5
   unfold spec_l5Request.j4
   with_reducible repeat' first | exact ih0 _ _ _ _ _ | exact ih1 _ _ _ _ _ | exact ih2 _ _ _ _ _ | exact ih3 _ _ _ _ _ | exact ih4 _ _ _ _ _ _ | exact spec_l5OpV.mono _ _ _ _ _ _ _ | exact LeO.refl _ | exact LeO.none _ | refine LeO.ite ?_ ?_ | refine LeO.bind ?_ (fun _ => ?_)
theorem spec_l5Request.mono : ∀ a0 a1 a2 a3 k, LeO (spec_l5Request.f k a0 a1 a2 a3) (spec_l5Request.f (k + 1) a0 a1 a2 a3) := by
 intro a0 a1 a2 a3 k
 obtain ⟨ih0, ih1, ih2, ih3, ih4⟩ := spec_l5Request.mono_l k
 unfold spec_l5Request.f
 with_reducible repeat' first | exact ih0 _ _ _ _ _ | exact ih1 _ _ _ _ _ | exact ih2 _ _ _ _ _ | exact ih3 _ _ _ _ _ | exact ih4 _ _ _ _ _ _ | exact spec_l5OpV.mono _ _ _ _ _ _ _ | exact LeO.refl _ | exact LeO.none _ | refine LeO.ite ?_ ?_ | refine LeO.bind ?_ (fun _ => ?_)
theorem spec_l5Request.calls (k : Nat) (g : Nat) (s0_0 : Int) (s0_1 : Int) (s0_2 : Int) (s0_3 : List (S26)) (r1 : Int) (r2 : Int) (r3 : Int) (r4 : Int) (w0 w : World) (hI : IsS36 w0 w g s0_0 s0_1 s0_2 s0_3) (hB : Below w0.heap.size w0 w) (h : spec_l5Request.f k s0_0 s0_1 s0_2 s0_3 = some (r1, r2, r3, r4)) :
  Calls Tryd.prog 22 #[.pointer (some ⟨g, 0, none⟩)] w fun e w' => e = .returned (.int .i64 r1) ∧ IsS36 w0 w' g r2 r3 r4 s0_3 ∧ Below w0.heap.size w0 w' ∧ KeepBut w w' g none := by
 have hu26 := Tryd.underlying26
 have HI0 := aa hI
 have HK := aa (KeepBut.refl w g none)
 have HL := aa hB.size
 clear hI
 have HW0 := aa hB.size
 have HB := aa hB
 clear hB
 have H : ((spec_l4Id.f s0_0).bind fun t101 => (if t101 = true then ((spec_l1In.f s0_1 1 99).bind fun t102 => (if t102 = true then ((spec_l4Now.f s0_2).bind fun t103 => (spec_l5Request.j0 k (!t103) s0_0 s0_1 s0_2 s0_3)) else (spec_l5Request.j0 k true s0_0 s0_1 s0_2 s0_3))) else (spec_l5Request.j0 k true s0_0 s0_1 s0_2 s0_3))) = some (r1, r2, r3, r4) := h
 clear h
 have HC2 := aa H
 clear H
 go_enter Tryd.func22, Tryd.ntmps22
 go_upto_region 1 with (fail)
 go_cut [27] (fun v27 wc => ∃ (kq : Nat) (x27_1 : Bool), v27 = .bool x27_1 ∧ Aside0 (spec_l5Request.j0 kq x27_1 s0_0 s0_1 s0_2 s0_3 = some (r1, r2, r3, r4)) ∧ Aside0 (kq ≤ k) ∧ Aside0 (IsS36 w0 wc g s0_0 s0_1 s0_2 s0_3) ∧ Aside0 (KeepBut w wc g none) ∧ Aside0 (Below w0.heap.size w0 wc))
 case first =>
  have H := HC2.out
  clear HC2
  revert H
  refine obs_ fun t101 A3 H => ?_
  by_cases c4 : t101 = true
  ·
   subst c4
   rw [if_pos rfl] at H
   revert H
   refine obs_ fun t102 A5 H => ?_
   by_cases c6 : t102 = true
   ·
    subst c6
    rw [if_pos rfl] at H
    revert H
    refine obs_ fun t103 A7 H => ?_
    have H' := aa H
    clear H
    obtain ⟨ASz8_3, cSz8_3, HGz8, hgz8, HSz8_3⟩ := HI0.out
    have hcz8_0 := cellS36_0 HGz8
    have hcz8_1 := cellS36_1 HGz8
    have hcz8_2 := cellS36_2 HGz8
    have hcz8_3 := cellS36_3 HGz8
    have hfz8_0 := blk_frozen HGz8 0
    have hfz8_1 := blk_frozen HGz8 1
    have hfz8_2 := blk_frozen HGz8 2
    clear HGz8 hgz8
    go_wp2_with (first | (refine gc_ Tryd.func39 (some 10) #[.int .i64 s0_0] ?_; (with_reducible refine (spec_l4Id.calls s0_0 true _ A3.out).mono ?_); rintro e w' ⟨rfl, ⟨nd, rfl⟩⟩; refine ⟨_, rfl, ?_⟩) | (go_at_call 29; (with_reducible refine (spec_l1In.calls s0_1 1 99 true _ A5.out).mono ?_); rintro e w' ⟨rfl, ⟨nd, rfl⟩⟩) | (go_at_call 40; (with_reducible refine (spec_l4Now.calls s0_2 t103 _ A7.out).mono ?_); rintro e w' ⟨rfl, ⟨nd, rfl⟩⟩))
    go_meet
    case rel => exact ⟨_, (!t103), zagbkp, H', ⟨zpacfg⟩, ⟨zdohpe⟩, ⟨zncgdm⟩, ⟨zphngg⟩⟩
   replace c6 := Bool.eq_false_iff.mpr c6
   subst c6
   rw [if_neg fT_] at H
   have H' := aa H
   clear H
   obtain ⟨ASz9_3, cSz9_3, HGz9, hgz9, HSz9_3⟩ := HI0.out
   have hcz9_0 := cellS36_0 HGz9
   have hcz9_1 := cellS36_1 HGz9
   have hcz9_2 := cellS36_2 HGz9
   have hcz9_3 := cellS36_3 HGz9
   have hfz9_0 := blk_frozen HGz9 0
   have hfz9_1 := blk_frozen HGz9 1
   have hfz9_2 := blk_frozen HGz9 2
   clear HGz9 hgz9
   go_wp2_with (first | (refine gc_ Tryd.func39 (some 10) #[.int .i64 s0_0] ?_; (with_reducible refine (spec_l4Id.calls s0_0 true _ A3.out).mono ?_); rintro e w' ⟨rfl, ⟨nd, rfl⟩⟩; refine ⟨_, rfl, ?_⟩) | (go_at_call 29; (with_reducible refine (spec_l1In.calls s0_1 1 99 false _ A5.out).mono ?_); rintro e w' ⟨rfl, ⟨nd, rfl⟩⟩))
   go_meet
   case rel => exact ⟨_, (true), zagbkp, H', ⟨zpacfg⟩, ⟨zdohpe⟩, ⟨zncgdm⟩, ⟨zphngg⟩⟩
  replace c4 := Bool.eq_false_iff.mpr c4
  subst c4
  rw [if_neg fT_] at H
  have H' := aa H
  clear H
  obtain ⟨ASz10_3, cSz10_3, HGz10, hgz10, HSz10_3⟩ := HI0.out
  have hcz10_0 := cellS36_0 HGz10
  have hcz10_1 := cellS36_1 HGz10
  have hcz10_2 := cellS36_2 HGz10
  have hcz10_3 := cellS36_3 HGz10
  have hfz10_0 := blk_frozen HGz10 0
  have hfz10_1 := blk_frozen HGz10 1
  have hfz10_2 := blk_frozen HGz10 2
  clear HGz10 hgz10
  go_wp2_with (first | (refine gc_ Tryd.func39 (some 10) #[.int .i64 s0_0] ?_; (with_reducible refine (spec_l4Id.calls s0_0 false _ A3.out).mono ?_); rintro e w' ⟨rfl, ⟨nd, rfl⟩⟩; refine ⟨_, rfl, ?_⟩))
  go_meet
  case rel => exact ⟨_, (true), zagbkp, H', ⟨zpacfg⟩, ⟨zdohpe⟩, ⟨zncgdm⟩, ⟨zphngg⟩⟩
 case rest =>
  clear HC2
  try clear p2
  try clear c3
  try clear c4
  try clear c6
  try clear hcz10_0
  try clear hcz10_1
  try clear hcz10_2
  try clear hcz10_3
  try clear hcz8_0
  try clear hcz8_1
  try clear hcz8_2
  try clear hcz8_3
  try clear hcz9_0
  try clear hcz9_1
  try clear hcz9_2
  try clear hcz9_3
  try clear hfz10_0
  try clear hfz10_1
  try clear hfz10_2
  try clear hfz8_0
  try clear hfz8_1
  try clear hfz8_2
  try clear hfz9_0
  try clear hfz9_1
  try clear hfz9_2
  obtain ⟨kq, x27_1, rfl, HA, HJ1, HI0, HK, HB⟩ := hcut
  cases kq with
  | zero => exact absurd HA.out (by simp [spec_l5Request.j0])
  | succ kj1 =>
   have H := HA.out
   clear HA
   simp only [spec_l5Request.j0] at H
   by_cases c11 : x27_1 = true
   ·
    subst c11
    rw [if_pos rfl] at H
    simp only [Option.some.injEq, Prod.mk.injEq] at H
    obtain ⟨rfl, rfl, rfl, rfl⟩ := H
    go_wp2
    go_ret
    exact ⟨zlhpib, zdohpe, zphngg, zncgdm⟩
   ·
    replace c11 := Bool.eq_false_iff.mpr c11
    subst c11
    rw [if_neg fT_] at H
    have HC12 := aa H
    clear H
    go_upto_region 3 with (fail)
    go_cut [41] (fun v41 wc => ∃ (kq : Nat) (x41_11 : Bool), v41 = .bool x41_11 ∧ Aside0 (spec_l5Request.j1 kq x41_11 s0_0 s0_1 s0_2 s0_3 = some (r1, r2, r3, r4)) ∧ Aside0 (kq ≤ kj1) ∧ Aside0 (IsS36 w0 wc g s0_0 s0_1 s0_2 s0_3) ∧ Aside0 (KeepBut w wc g none) ∧ Aside0 (Below w0.heap.size w0 wc))
    case first =>
     have H := HC12.out
     clear HC12
     revert H
     refine itC_ (fun c13 H => ?_) fun c13 H => ?_
     ·
      have c13b0 := decide_eq_true c13
      have c13b1 : decide (s0_3.length < 1) = true := decide_eq_true (by omega)
      clear c13
      (first | rw [c13b0] | (simp only [i64_w, i32_w]; rw [c13b0]) | (simp only [c13b2, Bool.not_false, Bool.not_true]) | skip)
      have H' := aa H
      clear H
      obtain ⟨ASz14_3, cSz14_3, HGz14, hgz14, HSz14_3⟩ := HI0.out
      have hcz14_0 := cellS36_0 HGz14
      have hcz14_1 := cellS36_1 HGz14
      have hcz14_2 := cellS36_2 HGz14
      have hcz14_3 := cellS36_3 HGz14
      have hfz14_0 := blk_frozen HGz14 0
      have hfz14_1 := blk_frozen HGz14 1
      have hfz14_2 := blk_frozen HGz14 2
      clear HGz14 hgz14
      go_wp2
      go_meet
      case rel => exact ⟨_, (true), zagbkp, H', ⟨by have := HJ1.out; first | omega | exact Nat.le_refl _⟩, ⟨zdohpe⟩, ⟨zncgdm⟩, ⟨zphngg⟩⟩
     have c13b0 := decide_eq_false c13
     have c13b1 : decide (s0_3.length < 1) = false := decide_eq_false (by omega)
     clear c13
     (first | rw [c13b0] | (simp only [i64_w, i32_w]; rw [c13b0]) | (simp only [c13b2, Bool.not_false, Bool.not_true]) | skip)
     have H' := aa H
     clear H
     obtain ⟨ASz15_3, cSz15_3, HGz15, hgz15, HSz15_3⟩ := HI0.out
     have hcz15_0 := cellS36_0 HGz15
     have hcz15_1 := cellS36_1 HGz15
     have hcz15_2 := cellS36_2 HGz15
     have hcz15_3 := cellS36_3 HGz15
     have hfz15_0 := blk_frozen HGz15 0
     have hfz15_1 := blk_frozen HGz15 1
     have hfz15_2 := blk_frozen HGz15 2
     clear HGz15 hgz15
     go_wp2
     go_meet
     case rel => exact ⟨_, (decide ((s0_3.length : Int) > 3)), zagbkp, H', ⟨by have := HJ1.out; first | omega | exact Nat.le_refl _⟩, ⟨zdohpe⟩, ⟨zncgdm⟩, ⟨zphngg⟩⟩
    case rest =>
     clear HC12
     try clear p2
     try clear c3
     try clear c4
     try clear c6
     try clear c11
     try clear c13
     try clear c13b0
     try clear c13b1
     try clear c13b2
     try clear hcz10_0
     try clear hcz10_1
     try clear hcz10_2
     try clear hcz10_3
     try clear hcz14_0
     try clear hcz14_1
     try clear hcz14_2
     try clear hcz14_3
     try clear hcz15_0
     try clear hcz15_1
     try clear hcz15_2
     try clear hcz15_3
     try clear hcz8_0
     try clear hcz8_1
     try clear hcz8_2
     try clear hcz8_3
     try clear hcz9_0
     try clear hcz9_1
     try clear hcz9_2
     try clear hcz9_3
     try clear hfz10_0
     try clear hfz10_1
     try clear hfz10_2
     try clear hfz14_0
     try clear hfz14_1
     try clear hfz14_2
     try clear hfz15_0
     try clear hfz15_1
     try clear hfz15_2
     try clear hfz8_0
     try clear hfz8_1
     try clear hfz8_2
     try clear hfz9_0
     try clear hfz9_1
     try clear hfz9_2
     try clear p2
     obtain ⟨kq, x41_11, rfl, HA, HJ11, HI0, HK, HB⟩ := hcut
     cases kq with
     | zero => exact absurd HA.out (by simp [spec_l5Request.j1])
     | succ kj11 =>
      have H := HA.out
      clear HA
      simp only [spec_l5Request.j1] at H
      by_cases c16 : x41_11 = true
      ·
       subst c16
       rw [if_pos rfl] at H
       simp only [Option.some.injEq, Prod.mk.injEq] at H
       obtain ⟨rfl, rfl, rfl, rfl⟩ := H
       go_wp2
       go_ret
       exact ⟨zlhpib, zdohpe, zphngg, zncgdm⟩
      ·
       replace c16 := Bool.eq_false_iff.mpr c16
       subst c16
       rw [if_neg fT_] at H
       have H' := aa H
       clear H
       go_wp2
       go_loopg [3] kj11 (fun kq v3 w' => ∃ (x3_3 : Int), v3 = .int .i64 x3_3 ∧ Aside0 (spec_l5Request.l0 kq x3_3 s0_0 s0_1 s0_2 s0_3 = some (r1, r2, r3, r4)) ∧ Aside0 (kq ≤ kj11) ∧ Aside0 (IsS36 w0 w' g s0_0 s0_1 s0_2 s0_3) ∧ Aside0 (KeepBut w w' g none) ∧ Aside0 (Below w0.heap.size w0 w'))
       case atStart => exact ⟨(0), zagbkp, H', ⟨Nat.le_refl _⟩, ⟨zdohpe⟩, ⟨zncgdm⟩, ⟨zphngg⟩⟩
       case round =>
        clear H'
        try clear p2
        try clear c3
        try clear c4
        try clear c6
        try clear c11
        try clear c13
        try clear c13b0
        try clear c13b1
        try clear c13b2
        try clear c16
        try clear hcz10_0
        try clear hcz10_1
        try clear hcz10_2
        try clear hcz10_3
        try clear hcz14_0
        try clear hcz14_1
        try clear hcz14_2
        try clear hcz14_3
        try clear hcz15_0
        try clear hcz15_1
        try clear hcz15_2
        try clear hcz15_3
        try clear hcz8_0
        try clear hcz8_1
        try clear hcz8_2
        try clear hcz8_3
        try clear hcz9_0
        try clear hcz9_1
        try clear hcz9_2
        try clear hcz9_3
        try clear hfz10_0
        try clear hfz10_1
        try clear hfz10_2
        try clear hfz14_0
        try clear hfz14_1
        try clear hfz14_2
        try clear hfz15_0
        try clear hfz15_1
        try clear hfz15_2
        try clear hfz8_0
        try clear hfz8_1
        try clear hfz8_2
        try clear hfz9_0
        try clear hfz9_1
        try clear hfz9_2
        try clear p2
        obtain ⟨x3_3, rfl, HA, HK3, HI0, HK, HB⟩ := hrel
        cases gk with
        | zero => exact absurd HA.out (by simp [spec_l5Request.l0])
        | succ k3 =>
         have H := HA.out
         clear HA
         simp only [spec_l5Request.l0] at H
         revert H
         refine itD_ (fun c17b0 H => ?_) fun c17b0 H => ?_
         ·
          revert H
          refine itH_ fun c18b0 H => ?_
          revert H
          refine obs_ fun t105 A19 H => ?_
          revert H
          refine itE_ (fun c20b0 c20b1 H => ?_) fun c20b0 c20b1 H => ?_
          ·
           have H' := aa H
           clear H
           obtain ⟨ASz21_3, cSz21_3, HGz21, hgz21, HSz21_3⟩ := HI0.out
           have hcz21_0 := cellS36_0 HGz21
           have hcz21_1 := cellS36_1 HGz21
           have hcz21_2 := cellS36_2 HGz21
           have hcz21_3 := cellS36_3 HGz21
           have hfz21_0 := blk_frozen HGz21 0
           have hfz21_1 := blk_frozen HGz21 1
           have hfz21_2 := blk_frozen HGz21 2
           clear HGz21 hgz21
           have p104 : 0 ≤ (x3_3 : Int) := of_decide_eq_true zgglam
           have q104 : x3_3 < (s0_3.length : Int) := of_decide_eq_true zgglam
           obtain ⟨ad104, e104, hx104_0, hx104_1, hx104_2, hx104_3, hx104_4, hx104_5⟩ := at_T26 HSz21_3 x3_3 p104 q104
           cases e104
           replace hx104_0 := pb HB.out hx104_0
           replace hx104_1 := pb HB.out hx104_1
           replace hx104_2 := pb HB.out hx104_2
           replace hx104_3 := pb HB.out hx104_3
           replace hx104_4 := pb HB.out hx104_4
           replace hx104_5 := pb HB.out hx104_5
           replace p104 := eq_true p104
           replace q104 := eq_true q104
           go_wp2_with (first | (go_at_call 14; (with_reducible refine (spec_l5OpV.callsAt k3 ((rd_T26 s0_3 x3_3).f0) ((rd_T26 s0_3 x3_3).f1) ((rd_T26 s0_3 x3_3).f2) ((rd_T26 s0_3 x3_3).f3) ((rd_T26 s0_3 x3_3).f4) ((rd_T26 s0_3 x3_3).f5) t105 _ _ ?sideb A19.out).mono ?_); (case sideb => constructor <;> assumption); rintro e w22 ⟨rfl, hb⟩; have n0_ := aa (IsS36.below zdohpe hb); have n1_ := aa (KeepBut.trans zncgdm (KeepBut.of_below hb g none) (.inl rfl)); have n2_ := aa (below_step zphngg hb); clear HI0; clear HK; clear HB; have HI0 := n0_; have HK := n1_; have HB := n2_; clear n0_ n1_ n2_; (try clear hb hb2 hk hi)))
           go_roundg k3
           case measure => have := HJ1.out; have := HJ11.out; have := HK3.out; omega
           case rel => exact ⟨(wrap64 (x3_3 + 1)), zagbkp, H', ⟨by have := HJ1.out; have := HJ11.out; have := HK3.out; omega⟩, ⟨zdohpe⟩, ⟨zncgdm⟩, ⟨zphngg⟩⟩
          simp only [Option.some.injEq, Prod.mk.injEq] at H
          obtain ⟨rfl, rfl, rfl, rfl⟩ := H
          obtain ⟨ASz23_3, cSz23_3, HGz23, hgz23, HSz23_3⟩ := HI0.out
          have hcz23_0 := cellS36_0 HGz23
          have hcz23_1 := cellS36_1 HGz23
          have hcz23_2 := cellS36_2 HGz23
          have hcz23_3 := cellS36_3 HGz23
          have hfz23_0 := blk_frozen HGz23 0
          have hfz23_1 := blk_frozen HGz23 1
          have hfz23_2 := blk_frozen HGz23 2
          clear HGz23 hgz23
          have p104 : 0 ≤ (x3_3 : Int) := of_decide_eq_true zgglam
          have q104 : x3_3 < (s0_3.length : Int) := of_decide_eq_true zgglam
          obtain ⟨ad104, e104, hx104_0, hx104_1, hx104_2, hx104_3, hx104_4, hx104_5⟩ := at_T26 HSz23_3 x3_3 p104 q104
          cases e104
          replace hx104_0 := pb HB.out hx104_0
          replace hx104_1 := pb HB.out hx104_1
          replace hx104_2 := pb HB.out hx104_2
          replace hx104_3 := pb HB.out hx104_3
          replace hx104_4 := pb HB.out hx104_4
          replace hx104_5 := pb HB.out hx104_5
          replace p104 := eq_true p104
          replace q104 := eq_true q104
          go_wp2_with (first | (go_at_call 14; (with_reducible refine (spec_l5OpV.callsAt k3 ((rd_T26 s0_3 x3_3).f0) ((rd_T26 s0_3 x3_3).f1) ((rd_T26 s0_3 x3_3).f2) ((rd_T26 s0_3 x3_3).f3) ((rd_T26 s0_3 x3_3).f4) ((rd_T26 s0_3 x3_3).f5) t105 _ _ ?sideb A19.out).mono ?_); (case sideb => constructor <;> assumption); rintro e w24 ⟨rfl, hb⟩; have n0_ := aa (IsS36.below zdohpe hb); have n1_ := aa (KeepBut.trans zncgdm (KeepBut.of_below hb g none) (.inl rfl)); have n2_ := aa (below_step zphngg hb); clear HI0; clear HK; clear HB; have HI0 := n0_; have HK := n1_; have HB := n2_; clear n0_ n1_ n2_; (try clear hb hb2 hk hi)))
          go_ret
          exact ⟨zlhpib, zdohpe, zphngg, zncgdm⟩
         ·
          have H' := aa H
          clear H
          obtain ⟨ASz25_3, cSz25_3, HGz25, hgz25, HSz25_3⟩ := HI0.out
          have hcz25_0 := cellS36_0 HGz25
          have hcz25_1 := cellS36_1 HGz25
          have hcz25_2 := cellS36_2 HGz25
          have hcz25_3 := cellS36_3 HGz25
          have hfz25_0 := blk_frozen HGz25 0
          have hfz25_1 := blk_frozen HGz25 1
          have hfz25_2 := blk_frozen HGz25 2
          clear HGz25 hgz25
          go_wp2
          go_loopg [5] k3 (fun kq v5 w' => ∃ (x5_4 : Int), v5 = .int .i64 x5_4 ∧ Aside0 (spec_l5Request.l1 kq x5_4 s0_0 s0_1 s0_2 s0_3 = some (r1, r2, r3, r4)) ∧ Aside0 (kq ≤ k3) ∧ Aside0 (IsS36 w0 w' g s0_0 s0_1 s0_2 s0_3) ∧ Aside0 (KeepBut w w' g none) ∧ Aside0 (Below w0.heap.size w0 w'))
          case atStart => exact ⟨(0), zagbkp, H', ⟨Nat.le_refl _⟩, ⟨zdohpe⟩, ⟨zncgdm⟩, ⟨zphngg⟩⟩
          case round =>
           clear H'
           try clear p1
           try clear q1
           try clear hx1
           try clear p2
           try clear c3
           try clear c4
           try clear c6
           try clear p6
           try clear p10
           try clear q10
           try clear hx10
           try clear c11
           try clear c13
           try clear c13b0
           try clear c13b1
           try clear c13b2
           try clear c16
           try clear c17b0
           try clear c18b0
           try clear c20b0
           try clear c20b1
           try clear hcz10_0
           try clear hcz10_1
           try clear hcz10_2
           try clear hcz10_3
           try clear hcz14_0
           try clear hcz14_1
           try clear hcz14_2
           try clear hcz14_3
           try clear hcz15_0
           try clear hcz15_1
           try clear hcz15_2
           try clear hcz15_3
           try clear hcz21_0
           try clear hcz21_1
           try clear hcz21_2
           try clear hcz21_3
           try clear hcz23_0
           try clear hcz23_1
           try clear hcz23_2
           try clear hcz23_3
           try clear hcz25_0
           try clear hcz25_1
           try clear hcz25_2
           try clear hcz25_3
           try clear hcz8_0
           try clear hcz8_1
           try clear hcz8_2
           try clear hcz8_3
           try clear hcz9_0
           try clear hcz9_1
           try clear hcz9_2
           try clear hcz9_3
           try clear hfz10_0
           try clear hfz10_1
           try clear hfz10_2
           try clear hfz14_0
           try clear hfz14_1
           try clear hfz14_2
           try clear hfz15_0
           try clear hfz15_1
           try clear hfz15_2
           try clear hfz21_0
           try clear hfz21_1
           try clear hfz21_2
           try clear hfz23_0
           try clear hfz23_1
           try clear hfz23_2
           try clear hfz25_0
           try clear hfz25_1
           try clear hfz25_2
           try clear hfz8_0
           try clear hfz8_1
           try clear hfz8_2
           try clear hfz9_0
           try clear hfz9_1
           try clear hfz9_2
           try clear hx104_0
           try clear hx104_1
           try clear hx104_2
           try clear hx104_3
           try clear hx104_4
           try clear hx104_5
           try clear p104
           try clear p2
           try clear q104
           obtain ⟨x5_4, rfl, HA, HK4, HI0, HK, HB⟩ := hrel
           cases gk with
           | zero => exact absurd HA.out (by simp [spec_l5Request.l1])
           | succ k4 =>
            have H := HA.out
            clear HA
            simp only [spec_l5Request.l1] at H
            have HC26 := aa H
            clear H
            go_upto_region 12 with (fail)
            go_cut [75] (fun v75 wc => ∃ (kq : Nat) (x75_25 : Bool), v75 = .bool x75_25 ∧ Aside0 (spec_l5Request.j4 kq x5_4 x75_25 s0_0 s0_1 s0_2 s0_3 = some (r1, r2, r3, r4)) ∧ Aside0 (kq ≤ k4) ∧ Aside0 (IsS36 w0 wc g s0_0 s0_1 s0_2 s0_3) ∧ Aside0 (KeepBut w wc g none) ∧ Aside0 (Below w0.heap.size w0 wc))
            case first =>
             have H := HC26.out
             clear HC26
             revert H
             refine itD_ (fun c27b0 H => ?_) fun c27b0 H => ?_
             ·
              (first | rw [c27b0] | (simp only [i64_w, i32_w]; rw [c27b0]) | (simp only [c27b2, Bool.not_false, Bool.not_true]) | skip)
              have H' := aa H
              clear H
              obtain ⟨ASz28_3, cSz28_3, HGz28, hgz28, HSz28_3⟩ := HI0.out
              have hcz28_0 := cellS36_0 HGz28
              have hcz28_1 := cellS36_1 HGz28
              have hcz28_2 := cellS36_2 HGz28
              have hcz28_3 := cellS36_3 HGz28
              have hfz28_0 := blk_frozen HGz28 0
              have hfz28_1 := blk_frozen HGz28 1
              have hfz28_2 := blk_frozen HGz28 2
              clear HGz28 hgz28
              go_wp2
              go_meet
              case rel => exact ⟨_, (decide ((s0_3.length : Int) > 1)), zagbkp, H', ⟨by have := HJ1.out; have := HJ11.out; have := HK3.out; have := HK4.out; first | omega | exact Nat.le_refl _⟩, ⟨zdohpe⟩, ⟨zncgdm⟩, ⟨zphngg⟩⟩
             (first | rw [c27b0] | (simp only [i64_w, i32_w]; rw [c27b0]) | (simp only [c27b2, Bool.not_false, Bool.not_true]) | skip)
             have H' := aa H
             clear H
             obtain ⟨ASz29_3, cSz29_3, HGz29, hgz29, HSz29_3⟩ := HI0.out
             have hcz29_0 := cellS36_0 HGz29
             have hcz29_1 := cellS36_1 HGz29
             have hcz29_2 := cellS36_2 HGz29
             have hcz29_3 := cellS36_3 HGz29
             have hfz29_0 := blk_frozen HGz29 0
             have hfz29_1 := blk_frozen HGz29 1
             have hfz29_2 := blk_frozen HGz29 2
             clear HGz29 hgz29
             go_wp2
             go_meet
             case rel => exact ⟨_, (false), zagbkp, H', ⟨by have := HJ1.out; have := HJ11.out; have := HK3.out; have := HK4.out; first | omega | exact Nat.le_refl _⟩, ⟨zdohpe⟩, ⟨zncgdm⟩, ⟨zphngg⟩⟩
            case rest =>
             clear HC26
             try clear p1
             try clear q1
             try clear hx1
             try clear p2
             try clear c3
             try clear c4
             try clear c6
             try clear p6
             try clear p10
             try clear q10
             try clear hx10
             try clear c11
             try clear c13
             try clear c13b0
             try clear c13b1
             try clear c13b2
             try clear c16
             try clear c17b0
             try clear c18b0
             try clear c20b0
             try clear c20b1
             try clear c27b0
             try clear c27b2
             try clear hcz10_0
             try clear hcz10_1
             try clear hcz10_2
             try clear hcz10_3
             try clear hcz14_0
             try clear hcz14_1
             try clear hcz14_2
             try clear hcz14_3
             try clear hcz15_0
             try clear hcz15_1
             try clear hcz15_2
             try clear hcz15_3
             try clear hcz21_0
             try clear hcz21_1
             try clear hcz21_2
             try clear hcz21_3
             try clear hcz23_0
             try clear hcz23_1
             try clear hcz23_2
             try clear hcz23_3
             try clear hcz25_0
             try clear hcz25_1
             try clear hcz25_2
             try clear hcz25_3
             try clear hcz28_0
             try clear hcz28_1
             try clear hcz28_2
             try clear hcz28_3
             try clear hcz29_0
             try clear hcz29_1
             try clear hcz29_2
             try clear hcz29_3
             try clear hcz8_0
             try clear hcz8_1
             try clear hcz8_2
             try clear hcz8_3
             try clear hcz9_0
             try clear hcz9_1
             try clear hcz9_2
             try clear hcz9_3
             try clear hfz10_0
             try clear hfz10_1
             try clear hfz10_2
             try clear hfz14_0
             try clear hfz14_1
             try clear hfz14_2
             try clear hfz15_0
             try clear hfz15_1
             try clear hfz15_2
             try clear hfz21_0
             try clear hfz21_1
             try clear hfz21_2
             try clear hfz23_0
             try clear hfz23_1
             try clear hfz23_2
             try clear hfz25_0
             try clear hfz25_1
             try clear hfz25_2
             try clear hfz28_0
             try clear hfz28_1
             try clear hfz28_2
             try clear hfz29_0
             try clear hfz29_1
             try clear hfz29_2
             try clear hfz8_0
             try clear hfz8_1
             try clear hfz8_2
             try clear hfz9_0
             try clear hfz9_1
             try clear hfz9_2
             try clear hx104_0
             try clear hx104_1
             try clear hx104_2
             try clear hx104_3
             try clear hx104_4
             try clear hx104_5
             try clear p1
             try clear p10
             try clear p104
             try clear p2
             try clear p6
             try clear q1
             try clear q10
             try clear q104
             obtain ⟨kq, x75_25, rfl, HA, HJ25, HI0, HK, HB⟩ := hcut
             cases kq with
             | zero => exact absurd HA.out (by simp [spec_l5Request.j4])
             | succ kj25 =>
              have H := HA.out
              clear HA
              simp only [spec_l5Request.j4] at H
              by_cases c30 : x75_25 = true
              ·
               subst c30
               rw [if_pos rfl] at H
               revert H
               refine itH_ fun c31b0 H => ?_
               revert H
               refine itH_ fun c32b0 H => ?_
               revert H
               refine itD_ (fun c33b0 H => ?_) fun c33b0 H => ?_
               ·
                simp only [Option.some.injEq, Prod.mk.injEq] at H
                obtain ⟨rfl, rfl, rfl, rfl⟩ := H
                obtain ⟨ASz34_3, cSz34_3, HGz34, hgz34, HSz34_3⟩ := HI0.out
                have hcz34_0 := cellS36_0 HGz34
                have hcz34_1 := cellS36_1 HGz34
                have hcz34_2 := cellS36_2 HGz34
                have hcz34_3 := cellS36_3 HGz34
                have hfz34_0 := blk_frozen HGz34 0
                have hfz34_1 := blk_frozen HGz34 1
                have hfz34_2 := blk_frozen HGz34 2
                clear HGz34 hgz34
                have p106 : 0 ≤ (x5_4 : Int) := of_decide_eq_true zgglam
                have q106 : x5_4 < (s0_3.length : Int) := of_decide_eq_true zgglam
                obtain ⟨ad106, e106, hx106_0, hx106_1, hx106_2, hx106_3, hx106_4, hx106_5⟩ := at_T26 HSz34_3 x5_4 p106 q106
                cases e106
                replace hx106_0 := pb HB.out hx106_0
                replace hx106_1 := pb HB.out hx106_1
                replace hx106_2 := pb HB.out hx106_2
                replace hx106_3 := pb HB.out hx106_3
                replace hx106_4 := pb HB.out hx106_4
                replace hx106_5 := pb HB.out hx106_5
                replace p106 := eq_true p106
                replace q106 := eq_true q106
                go_wp2
                go_ret
                exact ⟨zlhpib, zdohpe, zphngg, zncgdm⟩
               have H' := aa H
               clear H
               obtain ⟨ASz35_3, cSz35_3, HGz35, hgz35, HSz35_3⟩ := HI0.out
               have hcz35_0 := cellS36_0 HGz35
               have hcz35_1 := cellS36_1 HGz35
               have hcz35_2 := cellS36_2 HGz35
               have hcz35_3 := cellS36_3 HGz35
               have hfz35_0 := blk_frozen HGz35 0
               have hfz35_1 := blk_frozen HGz35 1
               have hfz35_2 := blk_frozen HGz35 2
               clear HGz35 hgz35
               have p106 : 0 ≤ (x5_4 : Int) := of_decide_eq_true zgglam
               have q106 : x5_4 < (s0_3.length : Int) := of_decide_eq_true zgglam
               obtain ⟨ad106, e106, hx106_0, hx106_1, hx106_2, hx106_3, hx106_4, hx106_5⟩ := at_T26 HSz35_3 x5_4 p106 q106
               cases e106
               replace hx106_0 := pb HB.out hx106_0
               replace hx106_1 := pb HB.out hx106_1
               replace hx106_2 := pb HB.out hx106_2
               replace hx106_3 := pb HB.out hx106_3
               replace hx106_4 := pb HB.out hx106_4
               replace hx106_5 := pb HB.out hx106_5
               replace p106 := eq_true p106
               replace q106 := eq_true q106
               go_wp2
               go_roundg kj25
               case measure => have := HJ1.out; have := HJ11.out; have := HK3.out; have := HK4.out; have := HJ25.out; omega
               case rel => exact ⟨(wrap64 (x5_4 + 1)), zagbkp, H', ⟨by have := HJ1.out; have := HJ11.out; have := HK3.out; have := HK4.out; have := HJ25.out; omega⟩, ⟨zdohpe⟩, ⟨zncgdm⟩, ⟨zphngg⟩⟩
              ·
               replace c30 := Bool.eq_false_iff.mpr c30
               subst c30
               rw [if_neg fT_] at H
               simp only [Option.some.injEq, Prod.mk.injEq] at H
               obtain ⟨rfl, rfl, rfl, rfl⟩ := H
               go_wp2
               go_ret
               exact ⟨zlhpib, zdohpe, zphngg, zncgdm⟩

end Go.Proofs.YtbeghfdlbokhkaaDoor.Qc
