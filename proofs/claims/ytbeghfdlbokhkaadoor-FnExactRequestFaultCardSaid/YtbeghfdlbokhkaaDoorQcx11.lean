import Derived.Test.YtbeghfdlbokhkaaDoorQcx0
import Derived.Test.YtbeghfdlbokhkaaDoorQcx2
import Derived.Test.YtbeghfdlbokhkaaDoorQcx3
import Derived.Test.YtbeghfdlbokhkaaDoorQcx4
import Derived.Test.YtbeghfdlbokhkaaDoorQcx5
import Derived.Test.YtbeghfdlbokhkaaDoorQcx9
import Derived.Test.YtbeghfdlbokhkaaDoorQcx10
namespace Go.Proofs.YtbeghfdlbokhkaaDoor.Qc
open Go.RowKit Go.Proofs.YtbeghfdlbokhkaaDoorW.PrintWords Go.Proofs.YtbeghfdlbokhkaaDoorW.PrintLast Go.Proofs.YtbeghfdlbokhkaaDoorW.PrintMore
attribute [local go_sem] max2_int min2_int max_two min_two max_three min_three max_four min_four
set_option linter.unusedVariables false
set_option linter.unusedSimpArgs false

/-- A state of type 26 at block g of W; what its slices lead to came in by w0. -/
def IsS26 (w0 W : World) (g : Nat) (f0 : Int) (f1 : ByteArray) (f2 : Int) (f3 : Int) (f4 : Bool) (f5 : Bool) : Prop := W.heap[g]? = some (.cells #[.int .i64 f0, .string f1, .int .i64 f2, .int .i64 f3, .bool f4, .bool f5] 26 (0, 0)) ∧ w0.heap.size ≤ g
theorem IsS26.grown {w0 W : World} {g : Nat} {f0 : Int} {f1 : ByteArray} {f2 : Int} {f3 : Int} {f4 : Bool} {f5 : Bool} {W1 : World} {row : Option Nat} (h : IsS26 w0 W g f0 f1 f2 f3 f4 f5) (hw : W.grownBy W1 row) (hne : some g ≠ row) : IsS26 w0 W1 g f0 f1 f2 f3 f4 f5 := by
 obtain ⟨hb, hg⟩ := h
 exact ⟨blk_grown hb hw hne, hg⟩
theorem IsS26.own_neN {w0 W : World} {g : Nat} {f0 : Int} {f1 : ByteArray} {f2 : Int} {f3 : Int} {f4 : Bool} {f5 : Bool} {α : Type} {d : Kd α} {e : Nat} {base : Nat} {ok : Nat → Prop} {v : Value} {xs : List α} (h : IsS26 w0 W g f0 f1 f2 f3 f4 f5) (ho : Kd.N d e W base ok v xs) (ht : e ≠ 26) : some g ≠ v.ownBlock := by
 obtain ⟨hb, hg⟩ := h
 exact Kd.N_ne ho hb ht
theorem IsS26.fresh {w0 W : World} {g : Nat} {f0 : Int} {f1 : ByteArray} {f2 : Int} {f3 : Int} {f4 : Bool} {f5 : Bool} (h : IsS26 w0 W g f0 f1 f2 f3 f4 f5) : ∀ k, W.heap.size ≤ k → k ≠ g := by
 obtain ⟨hb, hg⟩ := h
 exact Kd.freshB hb
theorem IsS26.kept {w0 W : World} {g : Nat} {f0 : Int} {f1 : ByteArray} {f2 : Int} {f3 : Int} {f4 : Bool} {f5 : Bool} {W1 : World} {S : Nat → Prop} (h : IsS26 w0 W g f0 f1 f2 f3 f4 f5) (hk : Kept W W1 S) (hne : ¬ S g) : IsS26 w0 W1 g f0 f1 f2 f3 f4 f5 := by
 obtain ⟨hb, hg⟩ := h
 exact ⟨blk_kept hb hk hne, hg⟩
theorem IsS26.below {w0 W : World} {g : Nat} {f0 : Int} {f1 : ByteArray} {f2 : Int} {f3 : Int} {f4 : Bool} {f5 : Bool} {W1 : World} (h : IsS26 w0 W g f0 f1 f2 f3 f4 f5) (hw : Below W.heap.size W W1) : IsS26 w0 W1 g f0 f1 f2 f3 f4 f5 := h.grown (grown_of_below hw none) (by simp)
theorem IsS26.alloc {w0 W : World} {g : Nat} {f0 : Int} {f1 : ByteArray} {f2 : Int} {f3 : Int} {f4 : Bool} {f5 : Bool} (h : IsS26 w0 W g f0 f1 f2 f3 f4 f5) (o : Obj) : IsS26 w0 (W.alloc o) g f0 f1 f2 f3 f4 f5 := h.below (below_alloc (Below.refl _ _) o)
theorem IsS26.drewN {w0 W : World} {g : Nat} {f0 : Int} {f1 : ByteArray} {f2 : Int} {f3 : Int} {f4 : Bool} {f5 : Bool} (h : IsS26 w0 W g f0 f1 f2 f3 f4 f5) (m : Nat) : IsS26 w0 (W.drewN m) g f0 f1 f2 f3 f4 f5 := h
theorem IsS26.drew {w0 W : World} {g : Nat} {f0 : Int} {f1 : ByteArray} {f2 : Int} {f3 : Int} {f4 : Bool} {f5 : Bool} (h : IsS26 w0 W g f0 f1 f2 f3 f4 f5) : IsS26 w0 W.drew g f0 f1 f2 f3 f4 f5 := h
theorem IsS26.at_ {w0 W : World} {g : Nat} {f0 : Int} {f1 : ByteArray} {f2 : Int} {f3 : Int} {f4 : Bool} {f5 : Bool} {w' : World} {m : Nat} (hq : W.drewN m = w') (h : IsS26 w0 W g f0 f1 f2 f3 f4 f5) : IsS26 w0 w' g f0 f1 f2 f3 f4 f5 := by subst hq; exact IsS26.drewN h m
theorem IsS26.apart {w0 W : World} {g : Nat} {f0 : Int} {f1 : ByteArray} {f2 : Int} {f3 : Int} {f4 : Bool} {f5 : Bool} {α : Type} {d : Kd α} {e : Nat} {base : Nat} {ok : Nat → Prop} {v : Value} {xs : List α} (h : IsS26 w0 W g f0 f1 f2 f3 f4 f5) (ho : d.R e W base ok v xs) (ht : ∀ q, q ∈ e :: d.E → q ≠ 26) : d.R e W base (fun k => ok k ∧ k ≠ g) v xs := by
 obtain ⟨hb, hg⟩ := h
 exact Kd.R_types ho hb ht
theorem IsS26.own_ne {w0 W : World} {g : Nat} {f0 : Int} {f1 : ByteArray} {f2 : Int} {f3 : Int} {f4 : Bool} {f5 : Bool} {α : Type} {d : Kd α} {e : Nat} {base : Nat} {ok : Nat → Prop} {v : Value} {xs : List α} (h : IsS26 w0 W g f0 f1 f2 f3 f4 f5) (ho : d.R e W base ok v xs) (ht : e ≠ 26) : some g ≠ v.ownBlock := by
 obtain ⟨hb, hg⟩ := h
 exact Kd.R_ne ho hb ht
theorem IsS26.apartQ {w0 W : World} {g : Nat} {f0 : Int} {f1 : ByteArray} {f2 : Int} {f3 : Int} {f4 : Bool} {f5 : Bool} {α : Type} {d : Kd α} {e : Nat} {base : Nat} {ok : Nat → Prop} {v : Value} {xs : List α} (h : IsS26 w0 W g f0 f1 f2 f3 f4 f5) (ho : d.Q e W base ok v xs) (ht : ∀ q, q ∈ e :: d.E → q ≠ 26) : d.Q e W base (fun k => ok k ∧ k ≠ g) v xs := by
 obtain ⟨hb, hg⟩ := h
 exact Kd.Q_types ho hb ht
theorem IsS26.own_neQ {w0 W : World} {g : Nat} {f0 : Int} {f1 : ByteArray} {f2 : Int} {f3 : Int} {f4 : Bool} {f5 : Bool} {α : Type} {d : Kd α} {e : Nat} {base : Nat} {ok : Nat → Prop} {v : Value} {xs : List α} (h : IsS26 w0 W g f0 f1 f2 f3 f4 f5) (ho : d.Q e W base ok v xs) (ht : e ≠ 26) : some g ≠ v.ownBlock := by
 obtain ⟨hb, hg⟩ := h
 exact Kd.Q_ne ho hb ht
theorem IsS26.apartS {w0 W : World} {g : Nat} {f0 : Int} {f1 : ByteArray} {f2 : Int} {f3 : Int} {f4 : Bool} {f5 : Bool} {α : Type} {d : Kd α} {e : Nat} {base : Nat} {ok : Nat → Prop} {v : Value} {xs : List α} (h : IsS26 w0 W g f0 f1 f2 f3 f4 f5) (ho : d.S e W base ok v xs) (ht : ∀ q, q ∈ e :: d.E → q ≠ 26) : d.S e W base (fun k => ok k ∧ k ≠ g) v xs := by
 obtain ⟨hb, hg⟩ := h
 exact Kd.S_types ho hb ht
theorem IsS26.own_neS {w0 W : World} {g : Nat} {f0 : Int} {f1 : ByteArray} {f2 : Int} {f3 : Int} {f4 : Bool} {f5 : Bool} {α : Type} {d : Kd α} {e : Nat} {base : Nat} {ok : Nat → Prop} {v : Value} {xs : List α} (h : IsS26 w0 W g f0 f1 f2 f3 f4 f5) (ho : d.S e W base ok v xs) (ht : e ≠ 26) : some g ≠ v.ownBlock := by
 obtain ⟨hb, hg⟩ := h
 exact Kd.S_ne ho hb ht
theorem IsS26.lt {w0 W : World} {g : Nat} {f0 : Int} {f1 : ByteArray} {f2 : Int} {f3 : Int} {f4 : Bool} {f5 : Bool} (h : IsS26 w0 W g f0 f1 f2 f3 f4 f5) : g < W.heap.size := by
 obtain ⟨hb, hg⟩ := h
 exact blk_lt hb
theorem IsS26.ge {w0 W : World} {g : Nat} {f0 : Int} {f1 : ByteArray} {f2 : Int} {f3 : Int} {f4 : Bool} {f5 : Bool} (h : IsS26 w0 W g f0 f1 f2 f3 f4 f5) : w0.heap.size ≤ g := by
 obtain ⟨hb, hg⟩ := h
 exact hg
theorem IsS26.ne_blk {w0 W : World} {g : Nat} {f0 : Int} {f1 : ByteArray} {f2 : Int} {f3 : Int} {f4 : Bool} {f5 : Bool} {a : Nat} {cs : Array Value} {t : TypeId} {fr : Nat × Nat} (h : IsS26 w0 W g f0 f1 f2 f3 f4 f5) (hb2 : W.heap[a]? = some (.cells cs t fr)) (ht : t ≠ 26) : g ≠ a := by
 obtain ⟨hb, hg⟩ := h
 rintro rfl
 rw [hb] at hb2
 injection hb2 with hb2
 injection hb2 with _ ht2
 exact ht ht2.symm
theorem IsS26.far {w0 W : World} {g : Nat} {f0 : Int} {f1 : ByteArray} {f2 : Int} {f3 : Int} {f4 : Bool} {f5 : Bool} {p : Addr} (h : IsS26 w0 W g f0 f1 f2 f3 f4 f5) (hne : g ≠ p.block) (u : Value) : IsS26 w0 (W.setCell p u) g f0 f1 f2 f3 f4 f5 := by
 obtain ⟨hb, hg⟩ := h
 exact ⟨blk_far hb hne u, hg⟩
theorem cellS26_0 {W : World} {g : Nat} {f0 : Int} {f1 : ByteArray} {f2 : Int} {f3 : Int} {f4 : Bool} {f5 : Bool} (h : W.heap[g]? = some (.cells #[.int .i64 f0, .string f1, .int .i64 f2, .int .i64 f3, .bool f4, .bool f5] 26 (0, 0))) : W.cell? ⟨g, 0, none⟩ = some (.int .i64 f0) := (blk_cell h 0).trans rfl
theorem IsS26.set_0 {w0 W : World} {g : Nat} {f0 : Int} {f1 : ByteArray} {f2 : Int} {f3 : Int} {f4 : Bool} {f5 : Bool} (h : IsS26 w0 W g f0 f1 f2 f3 f4 f5) (x : Int) : IsS26 w0 (W.setCell ⟨g, 0, none⟩ (.int .i64 x)) g x f1 f2 f3 f4 f5 := by
 obtain ⟨hb, hg⟩ := h
 exact ⟨by simpa using blk_set hb 0 (.int .i64 x), hg⟩
theorem cellS26_1 {W : World} {g : Nat} {f0 : Int} {f1 : ByteArray} {f2 : Int} {f3 : Int} {f4 : Bool} {f5 : Bool} (h : W.heap[g]? = some (.cells #[.int .i64 f0, .string f1, .int .i64 f2, .int .i64 f3, .bool f4, .bool f5] 26 (0, 0))) : W.cell? ⟨g, 1, none⟩ = some (.string f1) := (blk_cell h 1).trans rfl
theorem IsS26.set_1 {w0 W : World} {g : Nat} {f0 : Int} {f1 : ByteArray} {f2 : Int} {f3 : Int} {f4 : Bool} {f5 : Bool} (h : IsS26 w0 W g f0 f1 f2 f3 f4 f5) (x : ByteArray) : IsS26 w0 (W.setCell ⟨g, 1, none⟩ (.string x)) g f0 x f2 f3 f4 f5 := by
 obtain ⟨hb, hg⟩ := h
 exact ⟨by simpa using blk_set hb 1 (.string x), hg⟩
theorem cellS26_2 {W : World} {g : Nat} {f0 : Int} {f1 : ByteArray} {f2 : Int} {f3 : Int} {f4 : Bool} {f5 : Bool} (h : W.heap[g]? = some (.cells #[.int .i64 f0, .string f1, .int .i64 f2, .int .i64 f3, .bool f4, .bool f5] 26 (0, 0))) : W.cell? ⟨g, 2, none⟩ = some (.int .i64 f2) := (blk_cell h 2).trans rfl
theorem IsS26.set_2 {w0 W : World} {g : Nat} {f0 : Int} {f1 : ByteArray} {f2 : Int} {f3 : Int} {f4 : Bool} {f5 : Bool} (h : IsS26 w0 W g f0 f1 f2 f3 f4 f5) (x : Int) : IsS26 w0 (W.setCell ⟨g, 2, none⟩ (.int .i64 x)) g f0 f1 x f3 f4 f5 := by
 obtain ⟨hb, hg⟩ := h
 exact ⟨by simpa using blk_set hb 2 (.int .i64 x), hg⟩
theorem cellS26_3 {W : World} {g : Nat} {f0 : Int} {f1 : ByteArray} {f2 : Int} {f3 : Int} {f4 : Bool} {f5 : Bool} (h : W.heap[g]? = some (.cells #[.int .i64 f0, .string f1, .int .i64 f2, .int .i64 f3, .bool f4, .bool f5] 26 (0, 0))) : W.cell? ⟨g, 3, none⟩ = some (.int .i64 f3) := (blk_cell h 3).trans rfl
theorem IsS26.set_3 {w0 W : World} {g : Nat} {f0 : Int} {f1 : ByteArray} {f2 : Int} {f3 : Int} {f4 : Bool} {f5 : Bool} (h : IsS26 w0 W g f0 f1 f2 f3 f4 f5) (x : Int) : IsS26 w0 (W.setCell ⟨g, 3, none⟩ (.int .i64 x)) g f0 f1 f2 x f4 f5 := by
 obtain ⟨hb, hg⟩ := h
 exact ⟨by simpa using blk_set hb 3 (.int .i64 x), hg⟩
theorem cellS26_4 {W : World} {g : Nat} {f0 : Int} {f1 : ByteArray} {f2 : Int} {f3 : Int} {f4 : Bool} {f5 : Bool} (h : W.heap[g]? = some (.cells #[.int .i64 f0, .string f1, .int .i64 f2, .int .i64 f3, .bool f4, .bool f5] 26 (0, 0))) : W.cell? ⟨g, 4, none⟩ = some (.bool f4) := (blk_cell h 4).trans rfl
theorem IsS26.set_4 {w0 W : World} {g : Nat} {f0 : Int} {f1 : ByteArray} {f2 : Int} {f3 : Int} {f4 : Bool} {f5 : Bool} (h : IsS26 w0 W g f0 f1 f2 f3 f4 f5) (x : Bool) : IsS26 w0 (W.setCell ⟨g, 4, none⟩ (.bool x)) g f0 f1 f2 f3 x f5 := by
 obtain ⟨hb, hg⟩ := h
 exact ⟨by simpa using blk_set hb 4 (.bool x), hg⟩
theorem cellS26_5 {W : World} {g : Nat} {f0 : Int} {f1 : ByteArray} {f2 : Int} {f3 : Int} {f4 : Bool} {f5 : Bool} (h : W.heap[g]? = some (.cells #[.int .i64 f0, .string f1, .int .i64 f2, .int .i64 f3, .bool f4, .bool f5] 26 (0, 0))) : W.cell? ⟨g, 5, none⟩ = some (.bool f5) := (blk_cell h 5).trans rfl
theorem IsS26.set_5 {w0 W : World} {g : Nat} {f0 : Int} {f1 : ByteArray} {f2 : Int} {f3 : Int} {f4 : Bool} {f5 : Bool} (h : IsS26 w0 W g f0 f1 f2 f3 f4 f5) (x : Bool) : IsS26 w0 (W.setCell ⟨g, 5, none⟩ (.bool x)) g f0 f1 f2 f3 f4 x := by
 obtain ⟨hb, hg⟩ := h
 exact ⟨by simpa using blk_set hb 5 (.bool x), hg⟩
theorem IsS26.new (w0 W : World) (f0 : Int) (f1 : ByteArray) (f2 : Int) (f3 : Int) (f4 : Bool) (f5 : Bool) (hB : Below w0.heap.size w0 W) : IsS26 w0 (W.alloc (.cells #[.int .i64 f0, .string f1, .int .i64 f2, .int .i64 f3, .bool f4, .bool f5] 26)) W.heap.size f0 f1 f2 f3 f4 f5 := ⟨by simpa using heap_alloc_new W _, hB.size⟩
set_option maxHeartbeats 8000000
set_option maxRecDepth 100000

/-! ### spec_l5Op: function 14 -/
mutual
def spec_l5Op.j0 : Nat → Bool → Int → ByteArray → Int → Int → Bool → Bool → Option (Int × Int × ByteArray × Int × Int × Bool × Bool)
 | 0, _, _, _, _, _, _, _ => none
 | k + 1, x71, x1000, x1001, x1002, x1003, x1004, x1005 => if x71 = true then (some (1, x1000, x1001, x1002, x1003, x1004, x1005)) else ((spec_l5Path.f x1000).bind fun t109 => (if t109 = true then ((spec_l1Fault.f k x1001).bind fun t110 => (if t110 = 0 then (spec_l5Op.j1 k x1000 x1001 x1002 x1003 x1004 x1005) else (some (t110, x1000, x1001, x1002, x1003, x1004, x1005)))) else (spec_l5Op.j1 k x1000 x1001 x1002 x1003 x1004 x1005)))
def spec_l5Op.j1 : Nat → Int → ByteArray → Int → Int → Bool → Bool → Option (Int × Int × ByteArray × Int × Int × Bool × Bool)
 | 0, _, _, _, _, _, _ => none
 | k + 1, x1000, x1001, x1002, x1003, x1004, x1005 => (spec_l2Data.f x1002).bind fun t111 => (if t111 = true then ((spec_l1In.f x1003 (-1) 999).bind fun t112 => (if t112 = true then (some (0, x1000, x1001, x1002, x1003, x1004, x1005)) else (some (3, x1000, x1001, x1002, x1003, x1004, x1005)))) else (some (3, x1000, x1001, x1002, x1003, x1004, x1005)))
end
def spec_l5Op.f (k : Nat) (s0_0 : Int) (s0_1 : ByteArray) (s0_2 : Int) (s0_3 : Int) (s0_4 : Bool) (s0_5 : Bool) : Option (Int × Int × ByteArray × Int × Int × Bool × Bool) := (spec_l1In.f s0_0 1 8).bind fun t101 => (if t101 = true then ((spec_l5Path.f s0_0).bind fun t102 => (if t102 = true then ((spec_l5Data.f s0_0).bind fun t103 => (if t103 = true then ((spec_l5Version.f s0_0).bind fun t104 => (if t104 = true then (if s0_0 = 3 then (spec_l5Op.j0 k false s0_0 s0_1 s0_2 s0_3 s0_4 s0_5) else (if s0_4 = true then (spec_l5Op.j0 k true s0_0 s0_1 s0_2 s0_3 s0_4 s0_5) else (spec_l5Op.j0 k s0_5 s0_0 s0_1 s0_2 s0_3 s0_4 s0_5))) else (if s0_3 = 0 then (if s0_0 = 3 then (spec_l5Op.j0 k false s0_0 s0_1 s0_2 s0_3 s0_4 s0_5) else (if s0_4 = true then (spec_l5Op.j0 k true s0_0 s0_1 s0_2 s0_3 s0_4 s0_5) else (spec_l5Op.j0 k s0_5 s0_0 s0_1 s0_2 s0_3 s0_4 s0_5))) else (spec_l5Op.j0 k true s0_0 s0_1 s0_2 s0_3 s0_4 s0_5)))) else (if s0_2 = 0 then ((spec_l5Version.f s0_0).bind fun t105 => (if t105 = true then (if s0_0 = 3 then (spec_l5Op.j0 k false s0_0 s0_1 s0_2 s0_3 s0_4 s0_5) else (if s0_4 = true then (spec_l5Op.j0 k true s0_0 s0_1 s0_2 s0_3 s0_4 s0_5) else (spec_l5Op.j0 k s0_5 s0_0 s0_1 s0_2 s0_3 s0_4 s0_5))) else (if s0_3 = 0 then (if s0_0 = 3 then (spec_l5Op.j0 k false s0_0 s0_1 s0_2 s0_3 s0_4 s0_5) else (if s0_4 = true then (spec_l5Op.j0 k true s0_0 s0_1 s0_2 s0_3 s0_4 s0_5) else (spec_l5Op.j0 k s0_5 s0_0 s0_1 s0_2 s0_3 s0_4 s0_5))) else (spec_l5Op.j0 k true s0_0 s0_1 s0_2 s0_3 s0_4 s0_5)))) else (spec_l5Op.j0 k true s0_0 s0_1 s0_2 s0_3 s0_4 s0_5)))) else (if s0_1.toList = ([] : List UInt8) then ((spec_l5Data.f s0_0).bind fun t106 => (if t106 = true then ((spec_l5Version.f s0_0).bind fun t107 => (if t107 = true then (if s0_0 = 3 then (spec_l5Op.j0 k false s0_0 s0_1 s0_2 s0_3 s0_4 s0_5) else (if s0_4 = true then (spec_l5Op.j0 k true s0_0 s0_1 s0_2 s0_3 s0_4 s0_5) else (spec_l5Op.j0 k s0_5 s0_0 s0_1 s0_2 s0_3 s0_4 s0_5))) else (if s0_3 = 0 then (if s0_0 = 3 then (spec_l5Op.j0 k false s0_0 s0_1 s0_2 s0_3 s0_4 s0_5) else (if s0_4 = true then (spec_l5Op.j0 k true s0_0 s0_1 s0_2 s0_3 s0_4 s0_5) else (spec_l5Op.j0 k s0_5 s0_0 s0_1 s0_2 s0_3 s0_4 s0_5))) else (spec_l5Op.j0 k true s0_0 s0_1 s0_2 s0_3 s0_4 s0_5)))) else (if s0_2 = 0 then ((spec_l5Version.f s0_0).bind fun t108 => (if t108 = true then (if s0_0 = 3 then (spec_l5Op.j0 k false s0_0 s0_1 s0_2 s0_3 s0_4 s0_5) else (if s0_4 = true then (spec_l5Op.j0 k true s0_0 s0_1 s0_2 s0_3 s0_4 s0_5) else (spec_l5Op.j0 k s0_5 s0_0 s0_1 s0_2 s0_3 s0_4 s0_5))) else (if s0_3 = 0 then (if s0_0 = 3 then (spec_l5Op.j0 k false s0_0 s0_1 s0_2 s0_3 s0_4 s0_5) else (if s0_4 = true then (spec_l5Op.j0 k true s0_0 s0_1 s0_2 s0_3 s0_4 s0_5) else (spec_l5Op.j0 k s0_5 s0_0 s0_1 s0_2 s0_3 s0_4 s0_5))) else (spec_l5Op.j0 k true s0_0 s0_1 s0_2 s0_3 s0_4 s0_5)))) else (spec_l5Op.j0 k true s0_0 s0_1 s0_2 s0_3 s0_4 s0_5)))) else (spec_l5Op.j0 k true s0_0 s0_1 s0_2 s0_3 s0_4 s0_5)))) else (some (1, s0_0, s0_1, s0_2, s0_3, s0_4, s0_5)))
theorem spec_l5Op.mono_l : ∀ k, (∀ y0 y1 y2 y3 y4 y5 y6, LeO (spec_l5Op.j0 k y0 y1 y2 y3 y4 y5 y6) (spec_l5Op.j0 (k + 1) y0 y1 y2 y3 y4 y5 y6)) ∧ (∀ y0 y1 y2 y3 y4 y5, LeO (spec_l5Op.j1 k y0 y1 y2 y3 y4 y5) (spec_l5Op.j1 (k + 1) y0 y1 y2 y3 y4 y5))
 | 0 => ⟨fun _ _ _ _ _ _ _ r h => by simp [spec_l5Op.j0] at h, fun _ _ _ _ _ _ r h => by simp [spec_l5Op.j1] at h⟩
 | k + 1 => by
  obtain ⟨ih0, ih1⟩ := spec_l5Op.mono_l k
  refine ⟨?_, ?_⟩
  ·
   intro y0 y1 y2 y3 y4 y5 y6
   unfold spec_l5Op.j0
   with_reducible repeat' first | exact ih0 _ _ _ _ _ _ _ | exact ih1 _ _ _ _ _ _ | exact spec_l1Fault.mono _ _ | exact LeO.refl _ | exact LeO.none _ | refine LeO.ite ?_ ?_ | refine LeO.bind ?_ (fun _ => ?_)
  ·
   intro y0 y1 y2 y3 y4 y5
   unfold spec_l5Op.j1
   with_reducible repeat' first | exact ih0 _ _ _ _ _ _ _ | exact ih1 _ _ _ _ _ _ | exact spec_l1Fault.mono _ _ | exact LeO.refl _ | exact LeO.none _ | refine LeO.ite ?_ ?_ | refine LeO.bind ?_ (fun _ => ?_)
theorem spec_l5Op.mono : ∀ a0 a1 a2 a3 a4 a5 k, LeO (spec_l5Op.f k a0 a1 a2 a3 a4 a5) (spec_l5Op.f (k + 1) a0 a1 a2 a3 a4 a5) := by
 intro a0 a1 a2 a3 a4 a5 k
 obtain ⟨ih0, ih1⟩ := spec_l5Op.mono_l k
 unfold spec_l5Op.f
 with_reducible repeat' first | exact ih0 _ _ _ _ _ _ _ | exact ih1 _ _ _ _ _ _ | exact spec_l1Fault.mono _ _ | exact LeO.refl _ | exact LeO.none _ | refine LeO.ite ?_ ?_ | refine LeO.bind ?_ (fun _ => ?_)
theorem spec_l5Op.calls (k : Nat) (g : Nat) (s0_0 : Int) (s0_1 : ByteArray) (s0_2 : Int) (s0_3 : Int) (s0_4 : Bool) (s0_5 : Bool) (r1 : Int) (r2 : Int) (r3 : ByteArray) (r4 : Int) (r5 : Int) (r6 : Bool) (r7 : Bool) (w0 w : World) (hI : IsS26 w0 w g s0_0 s0_1 s0_2 s0_3 s0_4 s0_5) (hB : Below w0.heap.size w0 w) (h : spec_l5Op.f k s0_0 s0_1 s0_2 s0_3 s0_4 s0_5 = some (r1, r2, r3, r4, r5, r6, r7)) :
  Calls Tryd.prog 14 #[.pointer (some ⟨g, 0, none⟩)] w fun e w' => e = .returned (.int .i64 r1) ∧ IsS26 w0 w' g r2 r3 r4 r5 r6 r7 ∧ Below w0.heap.size w0 w' ∧ KeepBut w w' g none := by
 have HI0 := aa hI
 have HK := aa (KeepBut.refl w g none)
 have HL := aa hB.size
 clear hI
 have HW0 := aa hB.size
 have HB := aa hB
 clear hB
 have H : ((spec_l1In.f s0_0 1 8).bind fun t101 => (if t101 = true then ((spec_l5Path.f s0_0).bind fun t102 => (if t102 = true then ((spec_l5Data.f s0_0).bind fun t103 => (if t103 = true then ((spec_l5Version.f s0_0).bind fun t104 => (if t104 = true then (if s0_0 = 3 then (spec_l5Op.j0 k false s0_0 s0_1 s0_2 s0_3 s0_4 s0_5) else (if s0_4 = true then (spec_l5Op.j0 k true s0_0 s0_1 s0_2 s0_3 s0_4 s0_5) else (spec_l5Op.j0 k s0_5 s0_0 s0_1 s0_2 s0_3 s0_4 s0_5))) else (if s0_3 = 0 then (if s0_0 = 3 then (spec_l5Op.j0 k false s0_0 s0_1 s0_2 s0_3 s0_4 s0_5) else (if s0_4 = true then (spec_l5Op.j0 k true s0_0 s0_1 s0_2 s0_3 s0_4 s0_5) else (spec_l5Op.j0 k s0_5 s0_0 s0_1 s0_2 s0_3 s0_4 s0_5))) else (spec_l5Op.j0 k true s0_0 s0_1 s0_2 s0_3 s0_4 s0_5)))) else (if s0_2 = 0 then ((spec_l5Version.f s0_0).bind fun t105 => (if t105 = true then (if s0_0 = 3 then (spec_l5Op.j0 k false s0_0 s0_1 s0_2 s0_3 s0_4 s0_5) else (if s0_4 = true then (spec_l5Op.j0 k true s0_0 s0_1 s0_2 s0_3 s0_4 s0_5) else (spec_l5Op.j0 k s0_5 s0_0 s0_1 s0_2 s0_3 s0_4 s0_5))) else (if s0_3 = 0 then (if s0_0 = 3 then (spec_l5Op.j0 k false s0_0 s0_1 s0_2 s0_3 s0_4 s0_5) else (if s0_4 = true then (spec_l5Op.j0 k true s0_0 s0_1 s0_2 s0_3 s0_4 s0_5) else (spec_l5Op.j0 k s0_5 s0_0 s0_1 s0_2 s0_3 s0_4 s0_5))) else (spec_l5Op.j0 k true s0_0 s0_1 s0_2 s0_3 s0_4 s0_5)))) else (spec_l5Op.j0 k true s0_0 s0_1 s0_2 s0_3 s0_4 s0_5)))) else (if s0_1.toList = ([] : List UInt8) then ((spec_l5Data.f s0_0).bind fun t106 => (if t106 = true then ((spec_l5Version.f s0_0).bind fun t107 => (if t107 = true then (if s0_0 = 3 then (spec_l5Op.j0 k false s0_0 s0_1 s0_2 s0_3 s0_4 s0_5) else (if s0_4 = true then (spec_l5Op.j0 k true s0_0 s0_1 s0_2 s0_3 s0_4 s0_5) else (spec_l5Op.j0 k s0_5 s0_0 s0_1 s0_2 s0_3 s0_4 s0_5))) else (if s0_3 = 0 then (if s0_0 = 3 then (spec_l5Op.j0 k false s0_0 s0_1 s0_2 s0_3 s0_4 s0_5) else (if s0_4 = true then (spec_l5Op.j0 k true s0_0 s0_1 s0_2 s0_3 s0_4 s0_5) else (spec_l5Op.j0 k s0_5 s0_0 s0_1 s0_2 s0_3 s0_4 s0_5))) else (spec_l5Op.j0 k true s0_0 s0_1 s0_2 s0_3 s0_4 s0_5)))) else (if s0_2 = 0 then ((spec_l5Version.f s0_0).bind fun t108 => (if t108 = true then (if s0_0 = 3 then (spec_l5Op.j0 k false s0_0 s0_1 s0_2 s0_3 s0_4 s0_5) else (if s0_4 = true then (spec_l5Op.j0 k true s0_0 s0_1 s0_2 s0_3 s0_4 s0_5) else (spec_l5Op.j0 k s0_5 s0_0 s0_1 s0_2 s0_3 s0_4 s0_5))) else (if s0_3 = 0 then (if s0_0 = 3 then (spec_l5Op.j0 k false s0_0 s0_1 s0_2 s0_3 s0_4 s0_5) else (if s0_4 = true then (spec_l5Op.j0 k true s0_0 s0_1 s0_2 s0_3 s0_4 s0_5) else (spec_l5Op.j0 k s0_5 s0_0 s0_1 s0_2 s0_3 s0_4 s0_5))) else (spec_l5Op.j0 k true s0_0 s0_1 s0_2 s0_3 s0_4 s0_5)))) else (spec_l5Op.j0 k true s0_0 s0_1 s0_2 s0_3 s0_4 s0_5)))) else (spec_l5Op.j0 k true s0_0 s0_1 s0_2 s0_3 s0_4 s0_5)))) else (some (1, s0_0, s0_1, s0_2, s0_3, s0_4, s0_5)))) = some (r1, r2, r3, r4, r5, r6, r7) := h
 clear h
 revert H
 refine obs_ fun t101 A2 H => ?_
 by_cases c3 : t101 = true
 ·
  subst c3
  rw [if_pos rfl] at H
  have HC4 := aa H
  clear H
  obtain ⟨HGz5, hgz5⟩ := HI0.out
  have hcz5_0 := cellS26_0 HGz5
  have hcz5_1 := cellS26_1 HGz5
  have hcz5_2 := cellS26_2 HGz5
  have hcz5_3 := cellS26_3 HGz5
  have hcz5_4 := cellS26_4 HGz5
  have hcz5_5 := cellS26_5 HGz5
  have hfz5_0 := blk_frozen HGz5 0
  have hfz5_1 := blk_frozen HGz5 1
  have hfz5_2 := blk_frozen HGz5 2
  have hfz5_3 := blk_frozen HGz5 3
  have hfz5_4 := blk_frozen HGz5 4
  have hfz5_5 := blk_frozen HGz5 5
  clear HGz5 hgz5
  go_enter Tryd.func14, Tryd.ntmps14
  go_upto_region 3 with (first | (refine gc_ Tryd.func29 (some 8) #[.int .i64 s0_0, .int .i64 1, .int .i64 8] ?_; (with_reducible refine (spec_l1In.calls s0_0 1 8 true _ A2.out).mono ?_); rintro e w' ⟨rfl, ⟨nd, rfl⟩⟩; refine ⟨_, rfl, ?_⟩))
  (try simp only [Act.put, List.setIfInBounds_toArray, List.set_cons_zero, List.set_cons_succ])
  go_cut [71] (fun v71 wc => ∃ (kq : Nat) (x71_3 : Bool), v71 = .bool x71_3 ∧ Aside0 (spec_l5Op.j0 kq x71_3 s0_0 s0_1 s0_2 s0_3 s0_4 s0_5 = some (r1, r2, r3, r4, r5, r6, r7)) ∧ Aside0 (kq ≤ k) ∧ Aside0 (IsS26 w0 wc g s0_0 s0_1 s0_2 s0_3 s0_4 s0_5) ∧ Aside0 (KeepBut w wc g none) ∧ Aside0 (Below w0.heap.size w0 wc))
  case first =>
   have H := HC4.out
   clear HC4
   revert H
   refine obs_ fun t102 A6 H => ?_
   by_cases c7 : t102 = true
   ·
    subst c7
    rw [if_pos rfl] at H
    revert H
    refine obs_ fun t103 A8 H => ?_
    by_cases c9 : t103 = true
    ·
     subst c9
     rw [if_pos rfl] at H
     revert H
     refine obs_ fun t104 A10 H => ?_
     by_cases c11 : t104 = true
     ·
      subst c11
      rw [if_pos rfl] at H
      revert H
      refine itE_ (fun c12b0 c12b1 H => ?_) fun c12b0 c12b1 H => ?_
      ·
       (first | rw [c12b0] | (simp only [i64_w, i32_w]; rw [c12b0]) | (simp only [c12b2, Bool.not_false, Bool.not_true]) | skip)
       have H' := aa H
       clear H
       obtain ⟨HGz13, hgz13⟩ := HI0.out
       have hcz13_0 := cellS26_0 HGz13
       have hcz13_1 := cellS26_1 HGz13
       have hcz13_2 := cellS26_2 HGz13
       have hcz13_3 := cellS26_3 HGz13
       have hcz13_4 := cellS26_4 HGz13
       have hcz13_5 := cellS26_5 HGz13
       have hfz13_0 := blk_frozen HGz13 0
       have hfz13_1 := blk_frozen HGz13 1
       have hfz13_2 := blk_frozen HGz13 2
       have hfz13_3 := blk_frozen HGz13 3
       have hfz13_4 := blk_frozen HGz13 4
       have hfz13_5 := blk_frozen HGz13 5
       clear HGz13 hgz13
       go_wp2_with (first | (refine gc_ Tryd.func30 (some 14) #[.int .i64 s0_0] ?_; (with_reducible refine (spec_l5Path.calls s0_0 true _ A6.out).mono ?_); rintro e w' ⟨rfl, ⟨nd, rfl⟩⟩; refine ⟨_, rfl, ?_⟩) | (go_at_call 31; (with_reducible refine (spec_l5Data.calls s0_0 true _ A8.out).mono ?_); rintro e w' ⟨rfl, ⟨nd, rfl⟩⟩) | (go_at_call 32; (with_reducible refine (spec_l5Version.calls s0_0 true _ A10.out).mono ?_); rintro e w' ⟨rfl, ⟨nd, rfl⟩⟩))
       go_meet
       case rel => exact ⟨_, (false), zagbkp, H', ⟨zpacfg⟩, ⟨zgpjhe⟩, ⟨zncgdm⟩, ⟨zepaim⟩⟩
      (first | rw [c12b0] | (simp only [i64_w, i32_w]; rw [c12b0]) | (simp only [c12b2, Bool.not_false, Bool.not_true]) | skip)
      by_cases c14 : s0_4 = true
      ·
       subst c14
       rw [if_pos rfl] at H
       have H' := aa H
       clear H
       obtain ⟨HGz15, hgz15⟩ := HI0.out
       have hcz15_0 := cellS26_0 HGz15
       have hcz15_1 := cellS26_1 HGz15
       have hcz15_2 := cellS26_2 HGz15
       have hcz15_3 := cellS26_3 HGz15
       have hcz15_4 := cellS26_4 HGz15
       have hcz15_5 := cellS26_5 HGz15
       have hfz15_0 := blk_frozen HGz15 0
       have hfz15_1 := blk_frozen HGz15 1
       have hfz15_2 := blk_frozen HGz15 2
       have hfz15_3 := blk_frozen HGz15 3
       have hfz15_4 := blk_frozen HGz15 4
       have hfz15_5 := blk_frozen HGz15 5
       clear HGz15 hgz15
       go_wp2_with (first | (refine gc_ Tryd.func30 (some 14) #[.int .i64 s0_0] ?_; (with_reducible refine (spec_l5Path.calls s0_0 true _ A6.out).mono ?_); rintro e w' ⟨rfl, ⟨nd, rfl⟩⟩; refine ⟨_, rfl, ?_⟩) | (go_at_call 31; (with_reducible refine (spec_l5Data.calls s0_0 true _ A8.out).mono ?_); rintro e w' ⟨rfl, ⟨nd, rfl⟩⟩) | (go_at_call 32; (with_reducible refine (spec_l5Version.calls s0_0 true _ A10.out).mono ?_); rintro e w' ⟨rfl, ⟨nd, rfl⟩⟩))
       go_meet
       case rel => exact ⟨_, (true), zagbkp, H', ⟨zpacfg⟩, ⟨zgpjhe⟩, ⟨zncgdm⟩, ⟨zepaim⟩⟩
      replace c14 := Bool.eq_false_iff.mpr c14
      subst c14
      rw [if_neg fT_] at H
      have H' := aa H
      clear H
      obtain ⟨HGz16, hgz16⟩ := HI0.out
      have hcz16_0 := cellS26_0 HGz16
      have hcz16_1 := cellS26_1 HGz16
      have hcz16_2 := cellS26_2 HGz16
      have hcz16_3 := cellS26_3 HGz16
      have hcz16_4 := cellS26_4 HGz16
      have hcz16_5 := cellS26_5 HGz16
      have hfz16_0 := blk_frozen HGz16 0
      have hfz16_1 := blk_frozen HGz16 1
      have hfz16_2 := blk_frozen HGz16 2
      have hfz16_3 := blk_frozen HGz16 3
      have hfz16_4 := blk_frozen HGz16 4
      have hfz16_5 := blk_frozen HGz16 5
      clear HGz16 hgz16
      go_wp2_with (first | (refine gc_ Tryd.func30 (some 14) #[.int .i64 s0_0] ?_; (with_reducible refine (spec_l5Path.calls s0_0 true _ A6.out).mono ?_); rintro e w' ⟨rfl, ⟨nd, rfl⟩⟩; refine ⟨_, rfl, ?_⟩) | (go_at_call 31; (with_reducible refine (spec_l5Data.calls s0_0 true _ A8.out).mono ?_); rintro e w' ⟨rfl, ⟨nd, rfl⟩⟩) | (go_at_call 32; (with_reducible refine (spec_l5Version.calls s0_0 true _ A10.out).mono ?_); rintro e w' ⟨rfl, ⟨nd, rfl⟩⟩))
      go_meet
      case rel => exact ⟨_, (s0_5), zagbkp, H', ⟨zpacfg⟩, ⟨zgpjhe⟩, ⟨zncgdm⟩, ⟨zepaim⟩⟩
     replace c11 := Bool.eq_false_iff.mpr c11
     subst c11
     rw [if_neg fT_] at H
     revert H
     refine itE_ (fun c17b0 c17b1 H => ?_) fun c17b0 c17b1 H => ?_
     ·
      revert H
      refine itE_ (fun c18b0 c18b1 H => ?_) fun c18b0 c18b1 H => ?_
      ·
       have H' := aa H
       clear H
       obtain ⟨HGz19, hgz19⟩ := HI0.out
       have hcz19_0 := cellS26_0 HGz19
       have hcz19_1 := cellS26_1 HGz19
       have hcz19_2 := cellS26_2 HGz19
       have hcz19_3 := cellS26_3 HGz19
       have hcz19_4 := cellS26_4 HGz19
       have hcz19_5 := cellS26_5 HGz19
       have hfz19_0 := blk_frozen HGz19 0
       have hfz19_1 := blk_frozen HGz19 1
       have hfz19_2 := blk_frozen HGz19 2
       have hfz19_3 := blk_frozen HGz19 3
       have hfz19_4 := blk_frozen HGz19 4
       have hfz19_5 := blk_frozen HGz19 5
       clear HGz19 hgz19
       go_wp2_with (first | (refine gc_ Tryd.func30 (some 14) #[.int .i64 s0_0] ?_; (with_reducible refine (spec_l5Path.calls s0_0 true _ A6.out).mono ?_); rintro e w' ⟨rfl, ⟨nd, rfl⟩⟩; refine ⟨_, rfl, ?_⟩) | (go_at_call 31; (with_reducible refine (spec_l5Data.calls s0_0 true _ A8.out).mono ?_); rintro e w' ⟨rfl, ⟨nd, rfl⟩⟩) | (go_at_call 32; (with_reducible refine (spec_l5Version.calls s0_0 false _ A10.out).mono ?_); rintro e w' ⟨rfl, ⟨nd, rfl⟩⟩))
       go_meet
       case rel => exact ⟨_, (false), zagbkp, H', ⟨zpacfg⟩, ⟨zgpjhe⟩, ⟨zncgdm⟩, ⟨zepaim⟩⟩
      by_cases c20 : s0_4 = true
      ·
       subst c20
       rw [if_pos rfl] at H
       have H' := aa H
       clear H
       obtain ⟨HGz21, hgz21⟩ := HI0.out
       have hcz21_0 := cellS26_0 HGz21
       have hcz21_1 := cellS26_1 HGz21
       have hcz21_2 := cellS26_2 HGz21
       have hcz21_3 := cellS26_3 HGz21
       have hcz21_4 := cellS26_4 HGz21
       have hcz21_5 := cellS26_5 HGz21
       have hfz21_0 := blk_frozen HGz21 0
       have hfz21_1 := blk_frozen HGz21 1
       have hfz21_2 := blk_frozen HGz21 2
       have hfz21_3 := blk_frozen HGz21 3
       have hfz21_4 := blk_frozen HGz21 4
       have hfz21_5 := blk_frozen HGz21 5
       clear HGz21 hgz21
       go_wp2_with (first | (refine gc_ Tryd.func30 (some 14) #[.int .i64 s0_0] ?_; (with_reducible refine (spec_l5Path.calls s0_0 true _ A6.out).mono ?_); rintro e w' ⟨rfl, ⟨nd, rfl⟩⟩; refine ⟨_, rfl, ?_⟩) | (go_at_call 31; (with_reducible refine (spec_l5Data.calls s0_0 true _ A8.out).mono ?_); rintro e w' ⟨rfl, ⟨nd, rfl⟩⟩) | (go_at_call 32; (with_reducible refine (spec_l5Version.calls s0_0 false _ A10.out).mono ?_); rintro e w' ⟨rfl, ⟨nd, rfl⟩⟩))
       go_meet
       case rel => exact ⟨_, (true), zagbkp, H', ⟨zpacfg⟩, ⟨zgpjhe⟩, ⟨zncgdm⟩, ⟨zepaim⟩⟩
      replace c20 := Bool.eq_false_iff.mpr c20
      subst c20
      rw [if_neg fT_] at H
      have H' := aa H
      clear H
      obtain ⟨HGz22, hgz22⟩ := HI0.out
      have hcz22_0 := cellS26_0 HGz22
      have hcz22_1 := cellS26_1 HGz22
      have hcz22_2 := cellS26_2 HGz22
      have hcz22_3 := cellS26_3 HGz22
      have hcz22_4 := cellS26_4 HGz22
      have hcz22_5 := cellS26_5 HGz22
      have hfz22_0 := blk_frozen HGz22 0
      have hfz22_1 := blk_frozen HGz22 1
      have hfz22_2 := blk_frozen HGz22 2
      have hfz22_3 := blk_frozen HGz22 3
      have hfz22_4 := blk_frozen HGz22 4
      have hfz22_5 := blk_frozen HGz22 5
      clear HGz22 hgz22
      go_wp2_with (first | (refine gc_ Tryd.func30 (some 14) #[.int .i64 s0_0] ?_; (with_reducible refine (spec_l5Path.calls s0_0 true _ A6.out).mono ?_); rintro e w' ⟨rfl, ⟨nd, rfl⟩⟩; refine ⟨_, rfl, ?_⟩) | (go_at_call 31; (with_reducible refine (spec_l5Data.calls s0_0 true _ A8.out).mono ?_); rintro e w' ⟨rfl, ⟨nd, rfl⟩⟩) | (go_at_call 32; (with_reducible refine (spec_l5Version.calls s0_0 false _ A10.out).mono ?_); rintro e w' ⟨rfl, ⟨nd, rfl⟩⟩))
      go_meet
      case rel => exact ⟨_, (s0_5), zagbkp, H', ⟨zpacfg⟩, ⟨zgpjhe⟩, ⟨zncgdm⟩, ⟨zepaim⟩⟩
     have H' := aa H
     clear H
     obtain ⟨HGz23, hgz23⟩ := HI0.out
     have hcz23_0 := cellS26_0 HGz23
     have hcz23_1 := cellS26_1 HGz23
     have hcz23_2 := cellS26_2 HGz23
     have hcz23_3 := cellS26_3 HGz23
     have hcz23_4 := cellS26_4 HGz23
     have hcz23_5 := cellS26_5 HGz23
     have hfz23_0 := blk_frozen HGz23 0
     have hfz23_1 := blk_frozen HGz23 1
     have hfz23_2 := blk_frozen HGz23 2
     have hfz23_3 := blk_frozen HGz23 3
     have hfz23_4 := blk_frozen HGz23 4
     have hfz23_5 := blk_frozen HGz23 5
     clear HGz23 hgz23
     go_wp2_with (first | (refine gc_ Tryd.func30 (some 14) #[.int .i64 s0_0] ?_; (with_reducible refine (spec_l5Path.calls s0_0 true _ A6.out).mono ?_); rintro e w' ⟨rfl, ⟨nd, rfl⟩⟩; refine ⟨_, rfl, ?_⟩) | (go_at_call 31; (with_reducible refine (spec_l5Data.calls s0_0 true _ A8.out).mono ?_); rintro e w' ⟨rfl, ⟨nd, rfl⟩⟩) | (go_at_call 32; (with_reducible refine (spec_l5Version.calls s0_0 false _ A10.out).mono ?_); rintro e w' ⟨rfl, ⟨nd, rfl⟩⟩))
     go_meet
     case rel => exact ⟨_, (true), zagbkp, H', ⟨zpacfg⟩, ⟨zgpjhe⟩, ⟨zncgdm⟩, ⟨zepaim⟩⟩
    replace c9 := Bool.eq_false_iff.mpr c9
    subst c9
    rw [if_neg fT_] at H
    revert H
    refine itE_ (fun c24b0 c24b1 H => ?_) fun c24b0 c24b1 H => ?_
    ·
     revert H
     refine obs_ fun t105 A25 H => ?_
     by_cases c26 : t105 = true
     ·
      subst c26
      rw [if_pos rfl] at H
      revert H
      refine itE_ (fun c27b0 c27b1 H => ?_) fun c27b0 c27b1 H => ?_
      ·
       have H' := aa H
       clear H
       obtain ⟨HGz28, hgz28⟩ := HI0.out
       have hcz28_0 := cellS26_0 HGz28
       have hcz28_1 := cellS26_1 HGz28
       have hcz28_2 := cellS26_2 HGz28
       have hcz28_3 := cellS26_3 HGz28
       have hcz28_4 := cellS26_4 HGz28
       have hcz28_5 := cellS26_5 HGz28
       have hfz28_0 := blk_frozen HGz28 0
       have hfz28_1 := blk_frozen HGz28 1
       have hfz28_2 := blk_frozen HGz28 2
       have hfz28_3 := blk_frozen HGz28 3
       have hfz28_4 := blk_frozen HGz28 4
       have hfz28_5 := blk_frozen HGz28 5
       clear HGz28 hgz28
       go_wp2_with (first | (refine gc_ Tryd.func30 (some 14) #[.int .i64 s0_0] ?_; (with_reducible refine (spec_l5Path.calls s0_0 true _ A6.out).mono ?_); rintro e w' ⟨rfl, ⟨nd, rfl⟩⟩; refine ⟨_, rfl, ?_⟩) | (go_at_call 31; (with_reducible refine (spec_l5Data.calls s0_0 false _ A8.out).mono ?_); rintro e w' ⟨rfl, ⟨nd, rfl⟩⟩) | (go_at_call 32; (with_reducible refine (spec_l5Version.calls s0_0 true _ A25.out).mono ?_); rintro e w' ⟨rfl, ⟨nd, rfl⟩⟩))
       go_meet
       case rel => exact ⟨_, (false), zagbkp, H', ⟨zpacfg⟩, ⟨zgpjhe⟩, ⟨zncgdm⟩, ⟨zepaim⟩⟩
      by_cases c29 : s0_4 = true
      ·
       subst c29
       rw [if_pos rfl] at H
       have H' := aa H
       clear H
       obtain ⟨HGz30, hgz30⟩ := HI0.out
       have hcz30_0 := cellS26_0 HGz30
       have hcz30_1 := cellS26_1 HGz30
       have hcz30_2 := cellS26_2 HGz30
       have hcz30_3 := cellS26_3 HGz30
       have hcz30_4 := cellS26_4 HGz30
       have hcz30_5 := cellS26_5 HGz30
       have hfz30_0 := blk_frozen HGz30 0
       have hfz30_1 := blk_frozen HGz30 1
       have hfz30_2 := blk_frozen HGz30 2
       have hfz30_3 := blk_frozen HGz30 3
       have hfz30_4 := blk_frozen HGz30 4
       have hfz30_5 := blk_frozen HGz30 5
       clear HGz30 hgz30
       go_wp2_with (first | (refine gc_ Tryd.func30 (some 14) #[.int .i64 s0_0] ?_; (with_reducible refine (spec_l5Path.calls s0_0 true _ A6.out).mono ?_); rintro e w' ⟨rfl, ⟨nd, rfl⟩⟩; refine ⟨_, rfl, ?_⟩) | (go_at_call 31; (with_reducible refine (spec_l5Data.calls s0_0 false _ A8.out).mono ?_); rintro e w' ⟨rfl, ⟨nd, rfl⟩⟩) | (go_at_call 32; (with_reducible refine (spec_l5Version.calls s0_0 true _ A25.out).mono ?_); rintro e w' ⟨rfl, ⟨nd, rfl⟩⟩))
       go_meet
       case rel => exact ⟨_, (true), zagbkp, H', ⟨zpacfg⟩, ⟨zgpjhe⟩, ⟨zncgdm⟩, ⟨zepaim⟩⟩
      replace c29 := Bool.eq_false_iff.mpr c29
      subst c29
      rw [if_neg fT_] at H
      have H' := aa H
      clear H
      obtain ⟨HGz31, hgz31⟩ := HI0.out
      have hcz31_0 := cellS26_0 HGz31
      have hcz31_1 := cellS26_1 HGz31
      have hcz31_2 := cellS26_2 HGz31
      have hcz31_3 := cellS26_3 HGz31
      have hcz31_4 := cellS26_4 HGz31
      have hcz31_5 := cellS26_5 HGz31
      have hfz31_0 := blk_frozen HGz31 0
      have hfz31_1 := blk_frozen HGz31 1
      have hfz31_2 := blk_frozen HGz31 2
      have hfz31_3 := blk_frozen HGz31 3
      have hfz31_4 := blk_frozen HGz31 4
      have hfz31_5 := blk_frozen HGz31 5
      clear HGz31 hgz31
      go_wp2_with (first | (refine gc_ Tryd.func30 (some 14) #[.int .i64 s0_0] ?_; (with_reducible refine (spec_l5Path.calls s0_0 true _ A6.out).mono ?_); rintro e w' ⟨rfl, ⟨nd, rfl⟩⟩; refine ⟨_, rfl, ?_⟩) | (go_at_call 31; (with_reducible refine (spec_l5Data.calls s0_0 false _ A8.out).mono ?_); rintro e w' ⟨rfl, ⟨nd, rfl⟩⟩) | (go_at_call 32; (with_reducible refine (spec_l5Version.calls s0_0 true _ A25.out).mono ?_); rintro e w' ⟨rfl, ⟨nd, rfl⟩⟩))
      go_meet
      case rel => exact ⟨_, (s0_5), zagbkp, H', ⟨zpacfg⟩, ⟨zgpjhe⟩, ⟨zncgdm⟩, ⟨zepaim⟩⟩
     replace c26 := Bool.eq_false_iff.mpr c26
     subst c26
     rw [if_neg fT_] at H
     revert H
     refine itE_ (fun c32b0 c32b1 H => ?_) fun c32b0 c32b1 H => ?_
     ·
      revert H
      refine itE_ (fun c33b0 c33b1 H => ?_) fun c33b0 c33b1 H => ?_
      ·
       have H' := aa H
       clear H
       obtain ⟨HGz34, hgz34⟩ := HI0.out
       have hcz34_0 := cellS26_0 HGz34
       have hcz34_1 := cellS26_1 HGz34
       have hcz34_2 := cellS26_2 HGz34
       have hcz34_3 := cellS26_3 HGz34
       have hcz34_4 := cellS26_4 HGz34
       have hcz34_5 := cellS26_5 HGz34
       have hfz34_0 := blk_frozen HGz34 0
       have hfz34_1 := blk_frozen HGz34 1
       have hfz34_2 := blk_frozen HGz34 2
       have hfz34_3 := blk_frozen HGz34 3
       have hfz34_4 := blk_frozen HGz34 4
       have hfz34_5 := blk_frozen HGz34 5
       clear HGz34 hgz34
       go_wp2_with (first | (refine gc_ Tryd.func30 (some 14) #[.int .i64 s0_0] ?_; (with_reducible refine (spec_l5Path.calls s0_0 true _ A6.out).mono ?_); rintro e w' ⟨rfl, ⟨nd, rfl⟩⟩; refine ⟨_, rfl, ?_⟩) | (go_at_call 31; (with_reducible refine (spec_l5Data.calls s0_0 false _ A8.out).mono ?_); rintro e w' ⟨rfl, ⟨nd, rfl⟩⟩) | (go_at_call 32; (with_reducible refine (spec_l5Version.calls s0_0 false _ A25.out).mono ?_); rintro e w' ⟨rfl, ⟨nd, rfl⟩⟩))
       go_meet
       case rel => exact ⟨_, (false), zagbkp, H', ⟨zpacfg⟩, ⟨zgpjhe⟩, ⟨zncgdm⟩, ⟨zepaim⟩⟩
      by_cases c35 : s0_4 = true
      ·
       subst c35
       rw [if_pos rfl] at H
       have H' := aa H
       clear H
       obtain ⟨HGz36, hgz36⟩ := HI0.out
       have hcz36_0 := cellS26_0 HGz36
       have hcz36_1 := cellS26_1 HGz36
       have hcz36_2 := cellS26_2 HGz36
       have hcz36_3 := cellS26_3 HGz36
       have hcz36_4 := cellS26_4 HGz36
       have hcz36_5 := cellS26_5 HGz36
       have hfz36_0 := blk_frozen HGz36 0
       have hfz36_1 := blk_frozen HGz36 1
       have hfz36_2 := blk_frozen HGz36 2
       have hfz36_3 := blk_frozen HGz36 3
       have hfz36_4 := blk_frozen HGz36 4
       have hfz36_5 := blk_frozen HGz36 5
       clear HGz36 hgz36
       go_wp2_with (first | (refine gc_ Tryd.func30 (some 14) #[.int .i64 s0_0] ?_; (with_reducible refine (spec_l5Path.calls s0_0 true _ A6.out).mono ?_); rintro e w' ⟨rfl, ⟨nd, rfl⟩⟩; refine ⟨_, rfl, ?_⟩) | (go_at_call 31; (with_reducible refine (spec_l5Data.calls s0_0 false _ A8.out).mono ?_); rintro e w' ⟨rfl, ⟨nd, rfl⟩⟩) | (go_at_call 32; (with_reducible refine (spec_l5Version.calls s0_0 false _ A25.out).mono ?_); rintro e w' ⟨rfl, ⟨nd, rfl⟩⟩))
       go_meet
       case rel => exact ⟨_, (true), zagbkp, H', ⟨zpacfg⟩, ⟨zgpjhe⟩, ⟨zncgdm⟩, ⟨zepaim⟩⟩
      replace c35 := Bool.eq_false_iff.mpr c35
      subst c35
      rw [if_neg fT_] at H
      have H' := aa H
      clear H
      obtain ⟨HGz37, hgz37⟩ := HI0.out
      have hcz37_0 := cellS26_0 HGz37
      have hcz37_1 := cellS26_1 HGz37
      have hcz37_2 := cellS26_2 HGz37
      have hcz37_3 := cellS26_3 HGz37
      have hcz37_4 := cellS26_4 HGz37
      have hcz37_5 := cellS26_5 HGz37
      have hfz37_0 := blk_frozen HGz37 0
      have hfz37_1 := blk_frozen HGz37 1
      have hfz37_2 := blk_frozen HGz37 2
      have hfz37_3 := blk_frozen HGz37 3
      have hfz37_4 := blk_frozen HGz37 4
      have hfz37_5 := blk_frozen HGz37 5
      clear HGz37 hgz37
      go_wp2_with (first | (refine gc_ Tryd.func30 (some 14) #[.int .i64 s0_0] ?_; (with_reducible refine (spec_l5Path.calls s0_0 true _ A6.out).mono ?_); rintro e w' ⟨rfl, ⟨nd, rfl⟩⟩; refine ⟨_, rfl, ?_⟩) | (go_at_call 31; (with_reducible refine (spec_l5Data.calls s0_0 false _ A8.out).mono ?_); rintro e w' ⟨rfl, ⟨nd, rfl⟩⟩) | (go_at_call 32; (with_reducible refine (spec_l5Version.calls s0_0 false _ A25.out).mono ?_); rintro e w' ⟨rfl, ⟨nd, rfl⟩⟩))
      go_meet
      case rel => exact ⟨_, (s0_5), zagbkp, H', ⟨zpacfg⟩, ⟨zgpjhe⟩, ⟨zncgdm⟩, ⟨zepaim⟩⟩
     have H' := aa H
     clear H
     obtain ⟨HGz38, hgz38⟩ := HI0.out
     have hcz38_0 := cellS26_0 HGz38
     have hcz38_1 := cellS26_1 HGz38
     have hcz38_2 := cellS26_2 HGz38
     have hcz38_3 := cellS26_3 HGz38
     have hcz38_4 := cellS26_4 HGz38
     have hcz38_5 := cellS26_5 HGz38
     have hfz38_0 := blk_frozen HGz38 0
     have hfz38_1 := blk_frozen HGz38 1
     have hfz38_2 := blk_frozen HGz38 2
     have hfz38_3 := blk_frozen HGz38 3
     have hfz38_4 := blk_frozen HGz38 4
     have hfz38_5 := blk_frozen HGz38 5
     clear HGz38 hgz38
     go_wp2_with (first | (refine gc_ Tryd.func30 (some 14) #[.int .i64 s0_0] ?_; (with_reducible refine (spec_l5Path.calls s0_0 true _ A6.out).mono ?_); rintro e w' ⟨rfl, ⟨nd, rfl⟩⟩; refine ⟨_, rfl, ?_⟩) | (go_at_call 31; (with_reducible refine (spec_l5Data.calls s0_0 false _ A8.out).mono ?_); rintro e w' ⟨rfl, ⟨nd, rfl⟩⟩) | (go_at_call 32; (with_reducible refine (spec_l5Version.calls s0_0 false _ A25.out).mono ?_); rintro e w' ⟨rfl, ⟨nd, rfl⟩⟩))
     go_meet
     case rel => exact ⟨_, (true), zagbkp, H', ⟨zpacfg⟩, ⟨zgpjhe⟩, ⟨zncgdm⟩, ⟨zepaim⟩⟩
    have H' := aa H
    clear H
    obtain ⟨HGz39, hgz39⟩ := HI0.out
    have hcz39_0 := cellS26_0 HGz39
    have hcz39_1 := cellS26_1 HGz39
    have hcz39_2 := cellS26_2 HGz39
    have hcz39_3 := cellS26_3 HGz39
    have hcz39_4 := cellS26_4 HGz39
    have hcz39_5 := cellS26_5 HGz39
    have hfz39_0 := blk_frozen HGz39 0
    have hfz39_1 := blk_frozen HGz39 1
    have hfz39_2 := blk_frozen HGz39 2
    have hfz39_3 := blk_frozen HGz39 3
    have hfz39_4 := blk_frozen HGz39 4
    have hfz39_5 := blk_frozen HGz39 5
    clear HGz39 hgz39
    go_wp2_with (first | (refine gc_ Tryd.func30 (some 14) #[.int .i64 s0_0] ?_; (with_reducible refine (spec_l5Path.calls s0_0 true _ A6.out).mono ?_); rintro e w' ⟨rfl, ⟨nd, rfl⟩⟩; refine ⟨_, rfl, ?_⟩) | (go_at_call 31; (with_reducible refine (spec_l5Data.calls s0_0 false _ A8.out).mono ?_); rintro e w' ⟨rfl, ⟨nd, rfl⟩⟩))
    go_meet
    case rel => exact ⟨_, (true), zagbkp, H', ⟨zpacfg⟩, ⟨zgpjhe⟩, ⟨zncgdm⟩, ⟨zepaim⟩⟩
   replace c7 := Bool.eq_false_iff.mpr c7
   subst c7
   rw [if_neg fT_] at H
   revert H
   refine itE_ (fun c40b0 c40b1 H => ?_) fun c40b0 c40b1 H => ?_
   ·
    revert H
    refine obs_ fun t106 A41 H => ?_
    by_cases c42 : t106 = true
    ·
     subst c42
     rw [if_pos rfl] at H
     revert H
     refine obs_ fun t107 A43 H => ?_
     by_cases c44 : t107 = true
     ·
      subst c44
      rw [if_pos rfl] at H
      revert H
      refine itE_ (fun c45b0 c45b1 H => ?_) fun c45b0 c45b1 H => ?_
      ·
       have H' := aa H
       clear H
       obtain ⟨HGz46, hgz46⟩ := HI0.out
       have hcz46_0 := cellS26_0 HGz46
       have hcz46_1 := cellS26_1 HGz46
       have hcz46_2 := cellS26_2 HGz46
       have hcz46_3 := cellS26_3 HGz46
       have hcz46_4 := cellS26_4 HGz46
       have hcz46_5 := cellS26_5 HGz46
       have hfz46_0 := blk_frozen HGz46 0
       have hfz46_1 := blk_frozen HGz46 1
       have hfz46_2 := blk_frozen HGz46 2
       have hfz46_3 := blk_frozen HGz46 3
       have hfz46_4 := blk_frozen HGz46 4
       have hfz46_5 := blk_frozen HGz46 5
       clear HGz46 hgz46
       go_wp2_with (first | (refine gc_ Tryd.func30 (some 14) #[.int .i64 s0_0] ?_; (with_reducible refine (spec_l5Path.calls s0_0 false _ A6.out).mono ?_); rintro e w' ⟨rfl, ⟨nd, rfl⟩⟩; refine ⟨_, rfl, ?_⟩) | (go_at_call 31; (with_reducible refine (spec_l5Data.calls s0_0 true _ A41.out).mono ?_); rintro e w' ⟨rfl, ⟨nd, rfl⟩⟩) | (go_at_call 32; (with_reducible refine (spec_l5Version.calls s0_0 true _ A43.out).mono ?_); rintro e w' ⟨rfl, ⟨nd, rfl⟩⟩))
       go_meet
       case rel => exact ⟨_, (false), zagbkp, H', ⟨zpacfg⟩, ⟨zgpjhe⟩, ⟨zncgdm⟩, ⟨zepaim⟩⟩
      by_cases c47 : s0_4 = true
      ·
       subst c47
       rw [if_pos rfl] at H
       have H' := aa H
       clear H
       obtain ⟨HGz48, hgz48⟩ := HI0.out
       have hcz48_0 := cellS26_0 HGz48
       have hcz48_1 := cellS26_1 HGz48
       have hcz48_2 := cellS26_2 HGz48
       have hcz48_3 := cellS26_3 HGz48
       have hcz48_4 := cellS26_4 HGz48
       have hcz48_5 := cellS26_5 HGz48
       have hfz48_0 := blk_frozen HGz48 0
       have hfz48_1 := blk_frozen HGz48 1
       have hfz48_2 := blk_frozen HGz48 2
       have hfz48_3 := blk_frozen HGz48 3
       have hfz48_4 := blk_frozen HGz48 4
       have hfz48_5 := blk_frozen HGz48 5
       clear HGz48 hgz48
       go_wp2_with (first | (refine gc_ Tryd.func30 (some 14) #[.int .i64 s0_0] ?_; (with_reducible refine (spec_l5Path.calls s0_0 false _ A6.out).mono ?_); rintro e w' ⟨rfl, ⟨nd, rfl⟩⟩; refine ⟨_, rfl, ?_⟩) | (go_at_call 31; (with_reducible refine (spec_l5Data.calls s0_0 true _ A41.out).mono ?_); rintro e w' ⟨rfl, ⟨nd, rfl⟩⟩) | (go_at_call 32; (with_reducible refine (spec_l5Version.calls s0_0 true _ A43.out).mono ?_); rintro e w' ⟨rfl, ⟨nd, rfl⟩⟩))
       go_meet
       case rel => exact ⟨_, (true), zagbkp, H', ⟨zpacfg⟩, ⟨zgpjhe⟩, ⟨zncgdm⟩, ⟨zepaim⟩⟩
      replace c47 := Bool.eq_false_iff.mpr c47
      subst c47
      rw [if_neg fT_] at H
      have H' := aa H
      clear H
      obtain ⟨HGz49, hgz49⟩ := HI0.out
      have hcz49_0 := cellS26_0 HGz49
      have hcz49_1 := cellS26_1 HGz49
      have hcz49_2 := cellS26_2 HGz49
      have hcz49_3 := cellS26_3 HGz49
      have hcz49_4 := cellS26_4 HGz49
      have hcz49_5 := cellS26_5 HGz49
      have hfz49_0 := blk_frozen HGz49 0
      have hfz49_1 := blk_frozen HGz49 1
      have hfz49_2 := blk_frozen HGz49 2
      have hfz49_3 := blk_frozen HGz49 3
      have hfz49_4 := blk_frozen HGz49 4
      have hfz49_5 := blk_frozen HGz49 5
      clear HGz49 hgz49
      go_wp2_with (first | (refine gc_ Tryd.func30 (some 14) #[.int .i64 s0_0] ?_; (with_reducible refine (spec_l5Path.calls s0_0 false _ A6.out).mono ?_); rintro e w' ⟨rfl, ⟨nd, rfl⟩⟩; refine ⟨_, rfl, ?_⟩) | (go_at_call 31; (with_reducible refine (spec_l5Data.calls s0_0 true _ A41.out).mono ?_); rintro e w' ⟨rfl, ⟨nd, rfl⟩⟩) | (go_at_call 32; (with_reducible refine (spec_l5Version.calls s0_0 true _ A43.out).mono ?_); rintro e w' ⟨rfl, ⟨nd, rfl⟩⟩))
      go_meet
      case rel => exact ⟨_, (s0_5), zagbkp, H', ⟨zpacfg⟩, ⟨zgpjhe⟩, ⟨zncgdm⟩, ⟨zepaim⟩⟩
     replace c44 := Bool.eq_false_iff.mpr c44
     subst c44
     rw [if_neg fT_] at H
     revert H
     refine itE_ (fun c50b0 c50b1 H => ?_) fun c50b0 c50b1 H => ?_
     ·
      revert H
      refine itE_ (fun c51b0 c51b1 H => ?_) fun c51b0 c51b1 H => ?_
      ·
       have H' := aa H
       clear H
       obtain ⟨HGz52, hgz52⟩ := HI0.out
       have hcz52_0 := cellS26_0 HGz52
       have hcz52_1 := cellS26_1 HGz52
       have hcz52_2 := cellS26_2 HGz52
       have hcz52_3 := cellS26_3 HGz52
       have hcz52_4 := cellS26_4 HGz52
       have hcz52_5 := cellS26_5 HGz52
       have hfz52_0 := blk_frozen HGz52 0
       have hfz52_1 := blk_frozen HGz52 1
       have hfz52_2 := blk_frozen HGz52 2
       have hfz52_3 := blk_frozen HGz52 3
       have hfz52_4 := blk_frozen HGz52 4
       have hfz52_5 := blk_frozen HGz52 5
       clear HGz52 hgz52
       go_wp2_with (first | (refine gc_ Tryd.func30 (some 14) #[.int .i64 s0_0] ?_; (with_reducible refine (spec_l5Path.calls s0_0 false _ A6.out).mono ?_); rintro e w' ⟨rfl, ⟨nd, rfl⟩⟩; refine ⟨_, rfl, ?_⟩) | (go_at_call 31; (with_reducible refine (spec_l5Data.calls s0_0 true _ A41.out).mono ?_); rintro e w' ⟨rfl, ⟨nd, rfl⟩⟩) | (go_at_call 32; (with_reducible refine (spec_l5Version.calls s0_0 false _ A43.out).mono ?_); rintro e w' ⟨rfl, ⟨nd, rfl⟩⟩))
       go_meet
       case rel => exact ⟨_, (false), zagbkp, H', ⟨zpacfg⟩, ⟨zgpjhe⟩, ⟨zncgdm⟩, ⟨zepaim⟩⟩
      by_cases c53 : s0_4 = true
      ·
       subst c53
       rw [if_pos rfl] at H
       have H' := aa H
       clear H
       obtain ⟨HGz54, hgz54⟩ := HI0.out
       have hcz54_0 := cellS26_0 HGz54
       have hcz54_1 := cellS26_1 HGz54
       have hcz54_2 := cellS26_2 HGz54
       have hcz54_3 := cellS26_3 HGz54
       have hcz54_4 := cellS26_4 HGz54
       have hcz54_5 := cellS26_5 HGz54
       have hfz54_0 := blk_frozen HGz54 0
       have hfz54_1 := blk_frozen HGz54 1
       have hfz54_2 := blk_frozen HGz54 2
       have hfz54_3 := blk_frozen HGz54 3
       have hfz54_4 := blk_frozen HGz54 4
       have hfz54_5 := blk_frozen HGz54 5
       clear HGz54 hgz54
       go_wp2_with (first | (refine gc_ Tryd.func30 (some 14) #[.int .i64 s0_0] ?_; (with_reducible refine (spec_l5Path.calls s0_0 false _ A6.out).mono ?_); rintro e w' ⟨rfl, ⟨nd, rfl⟩⟩; refine ⟨_, rfl, ?_⟩) | (go_at_call 31; (with_reducible refine (spec_l5Data.calls s0_0 true _ A41.out).mono ?_); rintro e w' ⟨rfl, ⟨nd, rfl⟩⟩) | (go_at_call 32; (with_reducible refine (spec_l5Version.calls s0_0 false _ A43.out).mono ?_); rintro e w' ⟨rfl, ⟨nd, rfl⟩⟩))
       go_meet
       case rel => exact ⟨_, (true), zagbkp, H', ⟨zpacfg⟩, ⟨zgpjhe⟩, ⟨zncgdm⟩, ⟨zepaim⟩⟩
      replace c53 := Bool.eq_false_iff.mpr c53
      subst c53
      rw [if_neg fT_] at H
      have H' := aa H
      clear H
      obtain ⟨HGz55, hgz55⟩ := HI0.out
      have hcz55_0 := cellS26_0 HGz55
      have hcz55_1 := cellS26_1 HGz55
      have hcz55_2 := cellS26_2 HGz55
      have hcz55_3 := cellS26_3 HGz55
      have hcz55_4 := cellS26_4 HGz55
      have hcz55_5 := cellS26_5 HGz55
      have hfz55_0 := blk_frozen HGz55 0
      have hfz55_1 := blk_frozen HGz55 1
      have hfz55_2 := blk_frozen HGz55 2
      have hfz55_3 := blk_frozen HGz55 3
      have hfz55_4 := blk_frozen HGz55 4
      have hfz55_5 := blk_frozen HGz55 5
      clear HGz55 hgz55
      go_wp2_with (first | (refine gc_ Tryd.func30 (some 14) #[.int .i64 s0_0] ?_; (with_reducible refine (spec_l5Path.calls s0_0 false _ A6.out).mono ?_); rintro e w' ⟨rfl, ⟨nd, rfl⟩⟩; refine ⟨_, rfl, ?_⟩) | (go_at_call 31; (with_reducible refine (spec_l5Data.calls s0_0 true _ A41.out).mono ?_); rintro e w' ⟨rfl, ⟨nd, rfl⟩⟩) | (go_at_call 32; (with_reducible refine (spec_l5Version.calls s0_0 false _ A43.out).mono ?_); rintro e w' ⟨rfl, ⟨nd, rfl⟩⟩))
      go_meet
      case rel => exact ⟨_, (s0_5), zagbkp, H', ⟨zpacfg⟩, ⟨zgpjhe⟩, ⟨zncgdm⟩, ⟨zepaim⟩⟩
     have H' := aa H
     clear H
     obtain ⟨HGz56, hgz56⟩ := HI0.out
     have hcz56_0 := cellS26_0 HGz56
     have hcz56_1 := cellS26_1 HGz56
     have hcz56_2 := cellS26_2 HGz56
     have hcz56_3 := cellS26_3 HGz56
     have hcz56_4 := cellS26_4 HGz56
     have hcz56_5 := cellS26_5 HGz56
     have hfz56_0 := blk_frozen HGz56 0
     have hfz56_1 := blk_frozen HGz56 1
     have hfz56_2 := blk_frozen HGz56 2
     have hfz56_3 := blk_frozen HGz56 3
     have hfz56_4 := blk_frozen HGz56 4
     have hfz56_5 := blk_frozen HGz56 5
     clear HGz56 hgz56
     go_wp2_with (first | (refine gc_ Tryd.func30 (some 14) #[.int .i64 s0_0] ?_; (with_reducible refine (spec_l5Path.calls s0_0 false _ A6.out).mono ?_); rintro e w' ⟨rfl, ⟨nd, rfl⟩⟩; refine ⟨_, rfl, ?_⟩) | (go_at_call 31; (with_reducible refine (spec_l5Data.calls s0_0 true _ A41.out).mono ?_); rintro e w' ⟨rfl, ⟨nd, rfl⟩⟩) | (go_at_call 32; (with_reducible refine (spec_l5Version.calls s0_0 false _ A43.out).mono ?_); rintro e w' ⟨rfl, ⟨nd, rfl⟩⟩))
     go_meet
     case rel => exact ⟨_, (true), zagbkp, H', ⟨zpacfg⟩, ⟨zgpjhe⟩, ⟨zncgdm⟩, ⟨zepaim⟩⟩
    replace c42 := Bool.eq_false_iff.mpr c42
    subst c42
    rw [if_neg fT_] at H
    revert H
    refine itE_ (fun c57b0 c57b1 H => ?_) fun c57b0 c57b1 H => ?_
    ·
     revert H
     refine obs_ fun t108 A58 H => ?_
     by_cases c59 : t108 = true
     ·
      subst c59
      rw [if_pos rfl] at H
      revert H
      refine itE_ (fun c60b0 c60b1 H => ?_) fun c60b0 c60b1 H => ?_
      ·
       have H' := aa H
       clear H
       obtain ⟨HGz61, hgz61⟩ := HI0.out
       have hcz61_0 := cellS26_0 HGz61
       have hcz61_1 := cellS26_1 HGz61
       have hcz61_2 := cellS26_2 HGz61
       have hcz61_3 := cellS26_3 HGz61
       have hcz61_4 := cellS26_4 HGz61
       have hcz61_5 := cellS26_5 HGz61
       have hfz61_0 := blk_frozen HGz61 0
       have hfz61_1 := blk_frozen HGz61 1
       have hfz61_2 := blk_frozen HGz61 2
       have hfz61_3 := blk_frozen HGz61 3
       have hfz61_4 := blk_frozen HGz61 4
       have hfz61_5 := blk_frozen HGz61 5
       clear HGz61 hgz61
       go_wp2_with (first | (refine gc_ Tryd.func30 (some 14) #[.int .i64 s0_0] ?_; (with_reducible refine (spec_l5Path.calls s0_0 false _ A6.out).mono ?_); rintro e w' ⟨rfl, ⟨nd, rfl⟩⟩; refine ⟨_, rfl, ?_⟩) | (go_at_call 31; (with_reducible refine (spec_l5Data.calls s0_0 false _ A41.out).mono ?_); rintro e w' ⟨rfl, ⟨nd, rfl⟩⟩) | (go_at_call 32; (with_reducible refine (spec_l5Version.calls s0_0 true _ A58.out).mono ?_); rintro e w' ⟨rfl, ⟨nd, rfl⟩⟩))
       go_meet
       case rel => exact ⟨_, (false), zagbkp, H', ⟨zpacfg⟩, ⟨zgpjhe⟩, ⟨zncgdm⟩, ⟨zepaim⟩⟩
      by_cases c62 : s0_4 = true
      ·
       subst c62
       rw [if_pos rfl] at H
       have H' := aa H
       clear H
       obtain ⟨HGz63, hgz63⟩ := HI0.out
       have hcz63_0 := cellS26_0 HGz63
       have hcz63_1 := cellS26_1 HGz63
       have hcz63_2 := cellS26_2 HGz63
       have hcz63_3 := cellS26_3 HGz63
       have hcz63_4 := cellS26_4 HGz63
       have hcz63_5 := cellS26_5 HGz63
       have hfz63_0 := blk_frozen HGz63 0
       have hfz63_1 := blk_frozen HGz63 1
       have hfz63_2 := blk_frozen HGz63 2
       have hfz63_3 := blk_frozen HGz63 3
       have hfz63_4 := blk_frozen HGz63 4
       have hfz63_5 := blk_frozen HGz63 5
       clear HGz63 hgz63
       go_wp2_with (first | (refine gc_ Tryd.func30 (some 14) #[.int .i64 s0_0] ?_; (with_reducible refine (spec_l5Path.calls s0_0 false _ A6.out).mono ?_); rintro e w' ⟨rfl, ⟨nd, rfl⟩⟩; refine ⟨_, rfl, ?_⟩) | (go_at_call 31; (with_reducible refine (spec_l5Data.calls s0_0 false _ A41.out).mono ?_); rintro e w' ⟨rfl, ⟨nd, rfl⟩⟩) | (go_at_call 32; (with_reducible refine (spec_l5Version.calls s0_0 true _ A58.out).mono ?_); rintro e w' ⟨rfl, ⟨nd, rfl⟩⟩))
       go_meet
       case rel => exact ⟨_, (true), zagbkp, H', ⟨zpacfg⟩, ⟨zgpjhe⟩, ⟨zncgdm⟩, ⟨zepaim⟩⟩
      replace c62 := Bool.eq_false_iff.mpr c62
      subst c62
      rw [if_neg fT_] at H
      have H' := aa H
      clear H
      obtain ⟨HGz64, hgz64⟩ := HI0.out
      have hcz64_0 := cellS26_0 HGz64
      have hcz64_1 := cellS26_1 HGz64
      have hcz64_2 := cellS26_2 HGz64
      have hcz64_3 := cellS26_3 HGz64
      have hcz64_4 := cellS26_4 HGz64
      have hcz64_5 := cellS26_5 HGz64
      have hfz64_0 := blk_frozen HGz64 0
      have hfz64_1 := blk_frozen HGz64 1
      have hfz64_2 := blk_frozen HGz64 2
      have hfz64_3 := blk_frozen HGz64 3
      have hfz64_4 := blk_frozen HGz64 4
      have hfz64_5 := blk_frozen HGz64 5
      clear HGz64 hgz64
      go_wp2_with (first | (refine gc_ Tryd.func30 (some 14) #[.int .i64 s0_0] ?_; (with_reducible refine (spec_l5Path.calls s0_0 false _ A6.out).mono ?_); rintro e w' ⟨rfl, ⟨nd, rfl⟩⟩; refine ⟨_, rfl, ?_⟩) | (go_at_call 31; (with_reducible refine (spec_l5Data.calls s0_0 false _ A41.out).mono ?_); rintro e w' ⟨rfl, ⟨nd, rfl⟩⟩) | (go_at_call 32; (with_reducible refine (spec_l5Version.calls s0_0 true _ A58.out).mono ?_); rintro e w' ⟨rfl, ⟨nd, rfl⟩⟩))
      go_meet
      case rel => exact ⟨_, (s0_5), zagbkp, H', ⟨zpacfg⟩, ⟨zgpjhe⟩, ⟨zncgdm⟩, ⟨zepaim⟩⟩
     replace c59 := Bool.eq_false_iff.mpr c59
     subst c59
     rw [if_neg fT_] at H
     revert H
     refine itE_ (fun c65b0 c65b1 H => ?_) fun c65b0 c65b1 H => ?_
     ·
      revert H
      refine itE_ (fun c66b0 c66b1 H => ?_) fun c66b0 c66b1 H => ?_
      ·
       have H' := aa H
       clear H
       obtain ⟨HGz67, hgz67⟩ := HI0.out
       have hcz67_0 := cellS26_0 HGz67
       have hcz67_1 := cellS26_1 HGz67
       have hcz67_2 := cellS26_2 HGz67
       have hcz67_3 := cellS26_3 HGz67
       have hcz67_4 := cellS26_4 HGz67
       have hcz67_5 := cellS26_5 HGz67
       have hfz67_0 := blk_frozen HGz67 0
       have hfz67_1 := blk_frozen HGz67 1
       have hfz67_2 := blk_frozen HGz67 2
       have hfz67_3 := blk_frozen HGz67 3
       have hfz67_4 := blk_frozen HGz67 4
       have hfz67_5 := blk_frozen HGz67 5
       clear HGz67 hgz67
       go_wp2_with (first | (refine gc_ Tryd.func30 (some 14) #[.int .i64 s0_0] ?_; (with_reducible refine (spec_l5Path.calls s0_0 false _ A6.out).mono ?_); rintro e w' ⟨rfl, ⟨nd, rfl⟩⟩; refine ⟨_, rfl, ?_⟩) | (go_at_call 31; (with_reducible refine (spec_l5Data.calls s0_0 false _ A41.out).mono ?_); rintro e w' ⟨rfl, ⟨nd, rfl⟩⟩) | (go_at_call 32; (with_reducible refine (spec_l5Version.calls s0_0 false _ A58.out).mono ?_); rintro e w' ⟨rfl, ⟨nd, rfl⟩⟩))
       go_meet
       case rel => exact ⟨_, (false), zagbkp, H', ⟨zpacfg⟩, ⟨zgpjhe⟩, ⟨zncgdm⟩, ⟨zepaim⟩⟩
      by_cases c68 : s0_4 = true
      ·
       subst c68
       rw [if_pos rfl] at H
       have H' := aa H
       clear H
       obtain ⟨HGz69, hgz69⟩ := HI0.out
       have hcz69_0 := cellS26_0 HGz69
       have hcz69_1 := cellS26_1 HGz69
       have hcz69_2 := cellS26_2 HGz69
       have hcz69_3 := cellS26_3 HGz69
       have hcz69_4 := cellS26_4 HGz69
       have hcz69_5 := cellS26_5 HGz69
       have hfz69_0 := blk_frozen HGz69 0
       have hfz69_1 := blk_frozen HGz69 1
       have hfz69_2 := blk_frozen HGz69 2
       have hfz69_3 := blk_frozen HGz69 3
       have hfz69_4 := blk_frozen HGz69 4
       have hfz69_5 := blk_frozen HGz69 5
       clear HGz69 hgz69
       go_wp2_with (first | (refine gc_ Tryd.func30 (some 14) #[.int .i64 s0_0] ?_; (with_reducible refine (spec_l5Path.calls s0_0 false _ A6.out).mono ?_); rintro e w' ⟨rfl, ⟨nd, rfl⟩⟩; refine ⟨_, rfl, ?_⟩) | (go_at_call 31; (with_reducible refine (spec_l5Data.calls s0_0 false _ A41.out).mono ?_); rintro e w' ⟨rfl, ⟨nd, rfl⟩⟩) | (go_at_call 32; (with_reducible refine (spec_l5Version.calls s0_0 false _ A58.out).mono ?_); rintro e w' ⟨rfl, ⟨nd, rfl⟩⟩))
       go_meet
       case rel => exact ⟨_, (true), zagbkp, H', ⟨zpacfg⟩, ⟨zgpjhe⟩, ⟨zncgdm⟩, ⟨zepaim⟩⟩
      replace c68 := Bool.eq_false_iff.mpr c68
      subst c68
      rw [if_neg fT_] at H
      have H' := aa H
      clear H
      obtain ⟨HGz70, hgz70⟩ := HI0.out
      have hcz70_0 := cellS26_0 HGz70
      have hcz70_1 := cellS26_1 HGz70
      have hcz70_2 := cellS26_2 HGz70
      have hcz70_3 := cellS26_3 HGz70
      have hcz70_4 := cellS26_4 HGz70
      have hcz70_5 := cellS26_5 HGz70
      have hfz70_0 := blk_frozen HGz70 0
      have hfz70_1 := blk_frozen HGz70 1
      have hfz70_2 := blk_frozen HGz70 2
      have hfz70_3 := blk_frozen HGz70 3
      have hfz70_4 := blk_frozen HGz70 4
      have hfz70_5 := blk_frozen HGz70 5
      clear HGz70 hgz70
      go_wp2_with (first | (refine gc_ Tryd.func30 (some 14) #[.int .i64 s0_0] ?_; (with_reducible refine (spec_l5Path.calls s0_0 false _ A6.out).mono ?_); rintro e w' ⟨rfl, ⟨nd, rfl⟩⟩; refine ⟨_, rfl, ?_⟩) | (go_at_call 31; (with_reducible refine (spec_l5Data.calls s0_0 false _ A41.out).mono ?_); rintro e w' ⟨rfl, ⟨nd, rfl⟩⟩) | (go_at_call 32; (with_reducible refine (spec_l5Version.calls s0_0 false _ A58.out).mono ?_); rintro e w' ⟨rfl, ⟨nd, rfl⟩⟩))
      go_meet
      case rel => exact ⟨_, (s0_5), zagbkp, H', ⟨zpacfg⟩, ⟨zgpjhe⟩, ⟨zncgdm⟩, ⟨zepaim⟩⟩
     have H' := aa H
     clear H
     obtain ⟨HGz71, hgz71⟩ := HI0.out
     have hcz71_0 := cellS26_0 HGz71
     have hcz71_1 := cellS26_1 HGz71
     have hcz71_2 := cellS26_2 HGz71
     have hcz71_3 := cellS26_3 HGz71
     have hcz71_4 := cellS26_4 HGz71
     have hcz71_5 := cellS26_5 HGz71
     have hfz71_0 := blk_frozen HGz71 0
     have hfz71_1 := blk_frozen HGz71 1
     have hfz71_2 := blk_frozen HGz71 2
     have hfz71_3 := blk_frozen HGz71 3
     have hfz71_4 := blk_frozen HGz71 4
     have hfz71_5 := blk_frozen HGz71 5
     clear HGz71 hgz71
     go_wp2_with (first | (refine gc_ Tryd.func30 (some 14) #[.int .i64 s0_0] ?_; (with_reducible refine (spec_l5Path.calls s0_0 false _ A6.out).mono ?_); rintro e w' ⟨rfl, ⟨nd, rfl⟩⟩; refine ⟨_, rfl, ?_⟩) | (go_at_call 31; (with_reducible refine (spec_l5Data.calls s0_0 false _ A41.out).mono ?_); rintro e w' ⟨rfl, ⟨nd, rfl⟩⟩) | (go_at_call 32; (with_reducible refine (spec_l5Version.calls s0_0 false _ A58.out).mono ?_); rintro e w' ⟨rfl, ⟨nd, rfl⟩⟩))
     go_meet
     case rel => exact ⟨_, (true), zagbkp, H', ⟨zpacfg⟩, ⟨zgpjhe⟩, ⟨zncgdm⟩, ⟨zepaim⟩⟩
    have H' := aa H
    clear H
    obtain ⟨HGz72, hgz72⟩ := HI0.out
    have hcz72_0 := cellS26_0 HGz72
    have hcz72_1 := cellS26_1 HGz72
    have hcz72_2 := cellS26_2 HGz72
    have hcz72_3 := cellS26_3 HGz72
    have hcz72_4 := cellS26_4 HGz72
    have hcz72_5 := cellS26_5 HGz72
    have hfz72_0 := blk_frozen HGz72 0
    have hfz72_1 := blk_frozen HGz72 1
    have hfz72_2 := blk_frozen HGz72 2
    have hfz72_3 := blk_frozen HGz72 3
    have hfz72_4 := blk_frozen HGz72 4
    have hfz72_5 := blk_frozen HGz72 5
    clear HGz72 hgz72
    go_wp2_with (first | (refine gc_ Tryd.func30 (some 14) #[.int .i64 s0_0] ?_; (with_reducible refine (spec_l5Path.calls s0_0 false _ A6.out).mono ?_); rintro e w' ⟨rfl, ⟨nd, rfl⟩⟩; refine ⟨_, rfl, ?_⟩) | (go_at_call 31; (with_reducible refine (spec_l5Data.calls s0_0 false _ A41.out).mono ?_); rintro e w' ⟨rfl, ⟨nd, rfl⟩⟩))
    go_meet
    case rel => exact ⟨_, (true), zagbkp, H', ⟨zpacfg⟩, ⟨zgpjhe⟩, ⟨zncgdm⟩, ⟨zepaim⟩⟩
   have H' := aa H
   clear H
   obtain ⟨HGz73, hgz73⟩ := HI0.out
   have hcz73_0 := cellS26_0 HGz73
   have hcz73_1 := cellS26_1 HGz73
   have hcz73_2 := cellS26_2 HGz73
   have hcz73_3 := cellS26_3 HGz73
   have hcz73_4 := cellS26_4 HGz73
   have hcz73_5 := cellS26_5 HGz73
   have hfz73_0 := blk_frozen HGz73 0
   have hfz73_1 := blk_frozen HGz73 1
   have hfz73_2 := blk_frozen HGz73 2
   have hfz73_3 := blk_frozen HGz73 3
   have hfz73_4 := blk_frozen HGz73 4
   have hfz73_5 := blk_frozen HGz73 5
   clear HGz73 hgz73
   go_wp2_with (first | (refine gc_ Tryd.func30 (some 14) #[.int .i64 s0_0] ?_; (with_reducible refine (spec_l5Path.calls s0_0 false _ A6.out).mono ?_); rintro e w' ⟨rfl, ⟨nd, rfl⟩⟩; refine ⟨_, rfl, ?_⟩))
   go_meet
   case rel => exact ⟨_, (true), zagbkp, H', ⟨zpacfg⟩, ⟨zgpjhe⟩, ⟨zncgdm⟩, ⟨zepaim⟩⟩
  case rest =>
   clear HC4
   try clear c2
   try clear p2
   try clear c3
   try clear c4
   try clear c5
   try clear c7
   try clear c24b0
   try clear c24b1
   try clear c32b0
   try clear c32b1
   try clear c33b0
   try clear c33b1
   try clear c35
   try clear c40b0
   try clear c40b1
   try clear c42
   try clear c44
   try clear c45b0
   try clear c45b1
   try clear c47
   try clear c50b0
   try clear c50b1
   try clear c51b0
   try clear c51b1
   try clear c53
   try clear c57b0
   try clear c57b1
   try clear c59
   try clear c60b0
   try clear c60b1
   try clear c62
   try clear c65b0
   try clear c65b1
   try clear c66b0
   try clear c66b1
   try clear c68
   try clear hcz34_0
   try clear hcz34_1
   try clear hcz34_2
   try clear hcz34_3
   try clear hcz34_4
   try clear hcz34_5
   try clear hcz36_0
   try clear hcz36_1
   try clear hcz36_2
   try clear hcz36_3
   try clear hcz36_4
   try clear hcz36_5
   try clear hcz37_0
   try clear hcz37_1
   try clear hcz37_2
   try clear hcz37_3
   try clear hcz37_4
   try clear hcz37_5
   try clear hcz38_0
   try clear hcz38_1
   try clear hcz38_2
   try clear hcz38_3
   try clear hcz38_4
   try clear hcz38_5
   try clear hcz39_0
   try clear hcz39_1
   try clear hcz39_2
   try clear hcz39_3
   try clear hcz39_4
   try clear hcz39_5
   try clear hcz46_0
   try clear hcz46_1
   try clear hcz46_2
   try clear hcz46_3
   try clear hcz46_4
   try clear hcz46_5
   try clear hcz48_0
   try clear hcz48_1
   try clear hcz48_2
   try clear hcz48_3
   try clear hcz48_4
   try clear hcz48_5
   try clear hcz49_0
   try clear hcz49_1
   try clear hcz49_2
   try clear hcz49_3
   try clear hcz49_4
   try clear hcz49_5
   try clear hcz52_0
   try clear hcz52_1
   try clear hcz52_2
   try clear hcz52_3
   try clear hcz52_4
   try clear hcz52_5
   try clear hcz54_0
   try clear hcz54_1
   try clear hcz54_2
   try clear hcz54_3
   try clear hcz54_4
   try clear hcz54_5
   try clear hcz55_0
   try clear hcz55_1
   try clear hcz55_2
   try clear hcz55_3
   try clear hcz55_4
   try clear hcz55_5
   try clear hcz56_0
   try clear hcz56_1
   try clear hcz56_2
   try clear hcz56_3
   try clear hcz56_4
   try clear hcz56_5
   try clear hcz61_0
   try clear hcz61_1
   try clear hcz61_2
   try clear hcz61_3
   try clear hcz61_4
   try clear hcz61_5
   try clear hcz63_0
   try clear hcz63_1
   try clear hcz63_2
   try clear hcz63_3
   try clear hcz63_4
   try clear hcz63_5
   try clear hcz64_0
   try clear hcz64_1
   try clear hcz64_2
   try clear hcz64_3
   try clear hcz64_4
   try clear hcz64_5
   try clear hcz67_0
   try clear hcz67_1
   try clear hcz67_2
   try clear hcz67_3
   try clear hcz67_4
   try clear hcz67_5
   try clear hcz69_0
   try clear hcz69_1
   try clear hcz69_2
   try clear hcz69_3
   try clear hcz69_4
   try clear hcz69_5
   try clear hcz70_0
   try clear hcz70_1
   try clear hcz70_2
   try clear hcz70_3
   try clear hcz70_4
   try clear hcz70_5
   try clear hcz71_0
   try clear hcz71_1
   try clear hcz71_2
   try clear hcz71_3
   try clear hcz71_4
   try clear hcz71_5
   try clear hcz72_0
   try clear hcz72_1
   try clear hcz72_2
   try clear hcz72_3
   try clear hcz72_4
   try clear hcz72_5
   try clear hcz73_0
   try clear hcz73_1
   try clear hcz73_2
   try clear hcz73_3
   try clear hcz73_4
   try clear hcz73_5
   try clear hfz34_0
   try clear hfz34_1
   try clear hfz34_2
   try clear hfz34_3
   try clear hfz34_4
   try clear hfz34_5
   try clear hfz36_0
   try clear hfz36_1
   try clear hfz36_2
   try clear hfz36_3
   try clear hfz36_4
   try clear hfz36_5
   try clear hfz37_0
   try clear hfz37_1
   try clear hfz37_2
   try clear hfz37_3
   try clear hfz37_4
   try clear hfz37_5
   try clear hfz38_0
   try clear hfz38_1
   try clear hfz38_2
   try clear hfz38_3
   try clear hfz38_4
   try clear hfz38_5
   try clear hfz39_0
   try clear hfz39_1
   try clear hfz39_2
   try clear hfz39_3
   try clear hfz39_4
   try clear hfz39_5
   try clear hfz46_0
   try clear hfz46_1
   try clear hfz46_2
   try clear hfz46_3
   try clear hfz46_4
   try clear hfz46_5
   try clear hfz48_0
   try clear hfz48_1
   try clear hfz48_2
   try clear hfz48_3
   try clear hfz48_4
   try clear hfz48_5
   try clear hfz49_0
   try clear hfz49_1
   try clear hfz49_2
   try clear hfz49_3
   try clear hfz49_4
   try clear hfz49_5
   try clear hfz52_0
   try clear hfz52_1
   try clear hfz52_2
   try clear hfz52_3
   try clear hfz52_4
   try clear hfz52_5
   try clear hfz54_0
   try clear hfz54_1
   try clear hfz54_2
   try clear hfz54_3
   try clear hfz54_4
   try clear hfz54_5
   try clear hfz55_0
   try clear hfz55_1
   try clear hfz55_2
   try clear hfz55_3
   try clear hfz55_4
   try clear hfz55_5
   try clear hfz56_0
   try clear hfz56_1
   try clear hfz56_2
   try clear hfz56_3
   try clear hfz56_4
   try clear hfz56_5
   try clear hfz61_0
   try clear hfz61_1
   try clear hfz61_2
   try clear hfz61_3
   try clear hfz61_4
   try clear hfz61_5
   try clear hfz63_0
   try clear hfz63_1
   try clear hfz63_2
   try clear hfz63_3
   try clear hfz63_4
   try clear hfz63_5
   try clear hfz64_0
   try clear hfz64_1
   try clear hfz64_2
   try clear hfz64_3
   try clear hfz64_4
   try clear hfz64_5
   try clear hfz67_0
   try clear hfz67_1
   try clear hfz67_2
   try clear hfz67_3
   try clear hfz67_4
   try clear hfz67_5
   try clear hfz69_0
   try clear hfz69_1
   try clear hfz69_2
   try clear hfz69_3
   try clear hfz69_4
   try clear hfz69_5
   try clear hfz70_0
   try clear hfz70_1
   try clear hfz70_2
   try clear hfz70_3
   try clear hfz70_4
   try clear hfz70_5
   try clear hfz71_0
   try clear hfz71_1
   try clear hfz71_2
   try clear hfz71_3
   try clear hfz71_4
   try clear hfz71_5
   try clear hfz72_0
   try clear hfz72_1
   try clear hfz72_2
   try clear hfz72_3
   try clear hfz72_4
   try clear hfz72_5
   try clear hfz73_0
   try clear hfz73_1
   try clear hfz73_2
   try clear hfz73_3
   try clear hfz73_4
   try clear hfz73_5
   obtain ⟨kq, x71_3, rfl, HA, HJ3, HI0, HK, HB⟩ := hcut
   cases kq with
   | zero => exact absurd HA.out (by simp [spec_l5Op.j0])
   | succ kj3 =>
    have H := HA.out
    clear HA
    simp only [spec_l5Op.j0] at H
    by_cases c74 : x71_3 = true
    ·
     subst c74
     rw [if_pos rfl] at H
     simp only [Option.some.injEq, Prod.mk.injEq] at H
     obtain ⟨rfl, rfl, rfl, rfl, rfl, rfl, rfl⟩ := H
     go_wp2
     go_ret
     exact ⟨zlhpib, zgpjhe, zepaim, zncgdm⟩
    ·
     replace c74 := Bool.eq_false_iff.mpr c74
     subst c74
     rw [if_neg fT_] at H
     revert H
     refine obs_ fun t109 A75 H => ?_
     have HC76 := aa H
     clear H
     obtain ⟨HGz77, hgz77⟩ := HI0.out
     have hcz77_0 := cellS26_0 HGz77
     have hcz77_1 := cellS26_1 HGz77
     have hcz77_2 := cellS26_2 HGz77
     have hcz77_3 := cellS26_3 HGz77
     have hcz77_4 := cellS26_4 HGz77
     have hcz77_5 := cellS26_5 HGz77
     have hfz77_0 := blk_frozen HGz77 0
     have hfz77_1 := blk_frozen HGz77 1
     have hfz77_2 := blk_frozen HGz77 2
     have hfz77_3 := blk_frozen HGz77 3
     have hfz77_4 := blk_frozen HGz77 4
     have hfz77_5 := blk_frozen HGz77 5
     clear HGz77 hgz77
     go_upto_if 76 with (first | (refine gc_ Tryd.func30 (some 76) #[.int .i64 s0_0] ?_; (with_reducible refine (spec_l5Path.calls s0_0 t109 _ A75.out).mono ?_); rintro e w' ⟨rfl, ⟨nd, rfl⟩⟩; refine ⟨_, rfl, ?_⟩))
     (try simp only [Act.put, List.setIfInBounds_toArray, List.set_cons_zero, List.set_cons_succ])
     go_cut [] (fun wc => ∃ (kq : Nat), Aside0 (spec_l5Op.j1 kq s0_0 s0_1 s0_2 s0_3 s0_4 s0_5 = some (r1, r2, r3, r4, r5, r6, r7)) ∧ Aside0 (kq ≤ kj3) ∧ Aside0 (IsS26 w0 wc g s0_0 s0_1 s0_2 s0_3 s0_4 s0_5) ∧ Aside0 (KeepBut w wc g none) ∧ Aside0 (Below w0.heap.size w0 wc))
     case first =>
      have H := HC76.out
      clear HC76
      by_cases c78 : t109 = true
      ·
       subst c78
       rw [if_pos rfl] at H
       revert H
       refine obs_ fun t110 A79 H => ?_
       revert H
       refine itE_ (fun c80b0 c80b1 H => ?_) fun c80b0 c80b1 H => ?_
       ·
        (first | rw [c80b0] | (simp only [i64_w, i32_w]; rw [c80b0]) | (simp only [c80b2, Bool.not_false, Bool.not_true]) | skip)
        have H' := aa H
        clear H
        obtain ⟨HGz81, hgz81⟩ := HI0.out
        have hcz81_0 := cellS26_0 HGz81
        have hcz81_1 := cellS26_1 HGz81
        have hcz81_2 := cellS26_2 HGz81
        have hcz81_3 := cellS26_3 HGz81
        have hcz81_4 := cellS26_4 HGz81
        have hcz81_5 := cellS26_5 HGz81
        have hfz81_0 := blk_frozen HGz81 0
        have hfz81_1 := blk_frozen HGz81 1
        have hfz81_2 := blk_frozen HGz81 2
        have hfz81_3 := blk_frozen HGz81 3
        have hfz81_4 := blk_frozen HGz81 4
        have hfz81_5 := blk_frozen HGz81 5
        clear HGz81 hgz81
        go_wp2_with (first | (refine gc_ Tryd.func33 (some 81) #[.string s0_1] ?_; (with_reducible refine (spec_l1Fault.calls kj3 s0_1 t110 _ A79.out).mono ?_); rintro e w82 ⟨rfl, hb⟩; refine ⟨_, rfl, ?_⟩; have n0_ := aa (IsS26.below zgpjhe hb); have n1_ := aa (KeepBut.trans zncgdm (KeepBut.of_below hb g none) (.inl rfl)); have n2_ := aa (below_step zepaim hb); clear HI0; clear HK; clear HB; have HI0 := n0_; have HK := n1_; have HB := n2_; clear n0_ n1_ n2_; (try clear hb hb2 hk hi)))
        go_meet
        case rel => exact ⟨_, H', ⟨by have := HJ3.out; first | omega | exact Nat.le_refl _⟩, ⟨zgpjhe⟩, ⟨zncgdm⟩, ⟨zepaim⟩⟩
       (first | rw [c80b0] | (simp only [i64_w, i32_w]; rw [c80b0]) | (simp only [c80b2, Bool.not_false, Bool.not_true]) | skip)
       simp only [Option.some.injEq, Prod.mk.injEq] at H
       obtain ⟨rfl, rfl, rfl, rfl, rfl, rfl, rfl⟩ := H
       obtain ⟨HGz83, hgz83⟩ := HI0.out
       have hcz83_0 := cellS26_0 HGz83
       have hcz83_1 := cellS26_1 HGz83
       have hcz83_2 := cellS26_2 HGz83
       have hcz83_3 := cellS26_3 HGz83
       have hcz83_4 := cellS26_4 HGz83
       have hcz83_5 := cellS26_5 HGz83
       have hfz83_0 := blk_frozen HGz83 0
       have hfz83_1 := blk_frozen HGz83 1
       have hfz83_2 := blk_frozen HGz83 2
       have hfz83_3 := blk_frozen HGz83 3
       have hfz83_4 := blk_frozen HGz83 4
       have hfz83_5 := blk_frozen HGz83 5
       clear HGz83 hgz83
       go_wp2_with (first | (refine gc_ Tryd.func33 (some 81) #[.string s0_1] ?_; (with_reducible refine (spec_l1Fault.calls kj3 s0_1 t110 _ A79.out).mono ?_); rintro e w84 ⟨rfl, hb⟩; refine ⟨_, rfl, ?_⟩; have n0_ := aa (IsS26.below zgpjhe hb); have n1_ := aa (KeepBut.trans zncgdm (KeepBut.of_below hb g none) (.inl rfl)); have n2_ := aa (below_step zepaim hb); clear HI0; clear HK; clear HB; have HI0 := n0_; have HK := n1_; have HB := n2_; clear n0_ n1_ n2_; (try clear hb hb2 hk hi)))
       go_ret
       exact ⟨zlhpib, zgpjhe, zepaim, zncgdm⟩
      replace c78 := Bool.eq_false_iff.mpr c78
      subst c78
      rw [if_neg fT_] at H
      have H' := aa H
      clear H
      go_wp2
      go_meet
      case rel => exact ⟨_, H', ⟨by have := HJ3.out; first | omega | exact Nat.le_refl _⟩, ⟨zgpjhe⟩, ⟨zncgdm⟩, ⟨zepaim⟩⟩
     case rest =>
      clear HC76
      try clear c2
      try clear p2
      try clear c3
      try clear c4
      try clear c5
      try clear c7
      try clear c24b0
      try clear c24b1
      try clear c32b0
      try clear c32b1
      try clear c33b0
      try clear c33b1
      try clear c35
      try clear c40b0
      try clear c40b1
      try clear c42
      try clear c44
      try clear c45b0
      try clear c45b1
      try clear c47
      try clear c50b0
      try clear c50b1
      try clear c51b0
      try clear c51b1
      try clear c53
      try clear c57b0
      try clear c57b1
      try clear c59
      try clear c60b0
      try clear c60b1
      try clear c62
      try clear c65b0
      try clear c65b1
      try clear c66b0
      try clear c66b1
      try clear c68
      try clear c74
      try clear c78
      try clear c80b0
      try clear c80b1
      try clear c80b2
      try clear hcz34_0
      try clear hcz34_1
      try clear hcz34_2
      try clear hcz34_3
      try clear hcz34_4
      try clear hcz34_5
      try clear hcz36_0
      try clear hcz36_1
      try clear hcz36_2
      try clear hcz36_3
      try clear hcz36_4
      try clear hcz36_5
      try clear hcz37_0
      try clear hcz37_1
      try clear hcz37_2
      try clear hcz37_3
      try clear hcz37_4
      try clear hcz37_5
      try clear hcz38_0
      try clear hcz38_1
      try clear hcz38_2
      try clear hcz38_3
      try clear hcz38_4
      try clear hcz38_5
      try clear hcz39_0
      try clear hcz39_1
      try clear hcz39_2
      try clear hcz39_3
      try clear hcz39_4
      try clear hcz39_5
      try clear hcz46_0
      try clear hcz46_1
      try clear hcz46_2
      try clear hcz46_3
      try clear hcz46_4
      try clear hcz46_5
      try clear hcz48_0
      try clear hcz48_1
      try clear hcz48_2
      try clear hcz48_3
      try clear hcz48_4
      try clear hcz48_5
      try clear hcz49_0
      try clear hcz49_1
      try clear hcz49_2
      try clear hcz49_3
      try clear hcz49_4
      try clear hcz49_5
      try clear hcz52_0
      try clear hcz52_1
      try clear hcz52_2
      try clear hcz52_3
      try clear hcz52_4
      try clear hcz52_5
      try clear hcz54_0
      try clear hcz54_1
      try clear hcz54_2
      try clear hcz54_3
      try clear hcz54_4
      try clear hcz54_5
      try clear hcz55_0
      try clear hcz55_1
      try clear hcz55_2
      try clear hcz55_3
      try clear hcz55_4
      try clear hcz55_5
      try clear hcz56_0
      try clear hcz56_1
      try clear hcz56_2
      try clear hcz56_3
      try clear hcz56_4
      try clear hcz56_5
      try clear hcz61_0
      try clear hcz61_1
      try clear hcz61_2
      try clear hcz61_3
      try clear hcz61_4
      try clear hcz61_5
      try clear hcz63_0
      try clear hcz63_1
      try clear hcz63_2
      try clear hcz63_3
      try clear hcz63_4
      try clear hcz63_5
      try clear hcz64_0
      try clear hcz64_1
      try clear hcz64_2
      try clear hcz64_3
      try clear hcz64_4
      try clear hcz64_5
      try clear hcz67_0
      try clear hcz67_1
      try clear hcz67_2
      try clear hcz67_3
      try clear hcz67_4
      try clear hcz67_5
      try clear hcz69_0
      try clear hcz69_1
      try clear hcz69_2
      try clear hcz69_3
      try clear hcz69_4
      try clear hcz69_5
      try clear hcz70_0
      try clear hcz70_1
      try clear hcz70_2
      try clear hcz70_3
      try clear hcz70_4
      try clear hcz70_5
      try clear hcz71_0
      try clear hcz71_1
      try clear hcz71_2
      try clear hcz71_3
      try clear hcz71_4
      try clear hcz71_5
      try clear hcz72_0
      try clear hcz72_1
      try clear hcz72_2
      try clear hcz72_3
      try clear hcz72_4
      try clear hcz72_5
      try clear hcz73_0
      try clear hcz73_1
      try clear hcz73_2
      try clear hcz73_3
      try clear hcz73_4
      try clear hcz73_5
      try clear hcz77_0
      try clear hcz77_1
      try clear hcz77_2
      try clear hcz77_3
      try clear hcz77_4
      try clear hcz77_5
      try clear hcz81_0
      try clear hcz81_1
      try clear hcz81_2
      try clear hcz81_3
      try clear hcz81_4
      try clear hcz81_5
      try clear hcz83_0
      try clear hcz83_1
      try clear hcz83_2
      try clear hcz83_3
      try clear hcz83_4
      try clear hcz83_5
      try clear hfz34_0
      try clear hfz34_1
      try clear hfz34_2
      try clear hfz34_3
      try clear hfz34_4
      try clear hfz34_5
      try clear hfz36_0
      try clear hfz36_1
      try clear hfz36_2
      try clear hfz36_3
      try clear hfz36_4
      try clear hfz36_5
      try clear hfz37_0
      try clear hfz37_1
      try clear hfz37_2
      try clear hfz37_3
      try clear hfz37_4
      try clear hfz37_5
      try clear hfz38_0
      try clear hfz38_1
      try clear hfz38_2
      try clear hfz38_3
      try clear hfz38_4
      try clear hfz38_5
      try clear hfz39_0
      try clear hfz39_1
      try clear hfz39_2
      try clear hfz39_3
      try clear hfz39_4
      try clear hfz39_5
      try clear hfz46_0
      try clear hfz46_1
      try clear hfz46_2
      try clear hfz46_3
      try clear hfz46_4
      try clear hfz46_5
      try clear hfz48_0
      try clear hfz48_1
      try clear hfz48_2
      try clear hfz48_3
      try clear hfz48_4
      try clear hfz48_5
      try clear hfz49_0
      try clear hfz49_1
      try clear hfz49_2
      try clear hfz49_3
      try clear hfz49_4
      try clear hfz49_5
      try clear hfz52_0
      try clear hfz52_1
      try clear hfz52_2
      try clear hfz52_3
      try clear hfz52_4
      try clear hfz52_5
      try clear hfz54_0
      try clear hfz54_1
      try clear hfz54_2
      try clear hfz54_3
      try clear hfz54_4
      try clear hfz54_5
      try clear hfz55_0
      try clear hfz55_1
      try clear hfz55_2
      try clear hfz55_3
      try clear hfz55_4
      try clear hfz55_5
      try clear hfz56_0
      try clear hfz56_1
      try clear hfz56_2
      try clear hfz56_3
      try clear hfz56_4
      try clear hfz56_5
      try clear hfz61_0
      try clear hfz61_1
      try clear hfz61_2
      try clear hfz61_3
      try clear hfz61_4
      try clear hfz61_5
      try clear hfz63_0
      try clear hfz63_1
      try clear hfz63_2
      try clear hfz63_3
      try clear hfz63_4
      try clear hfz63_5
      try clear hfz64_0
      try clear hfz64_1
      try clear hfz64_2
      try clear hfz64_3
      try clear hfz64_4
      try clear hfz64_5
      try clear hfz67_0
      try clear hfz67_1
      try clear hfz67_2
      try clear hfz67_3
      try clear hfz67_4
      try clear hfz67_5
      try clear hfz69_0
      try clear hfz69_1
      try clear hfz69_2
      try clear hfz69_3
      try clear hfz69_4
      try clear hfz69_5
      try clear hfz70_0
      try clear hfz70_1
      try clear hfz70_2
      try clear hfz70_3
      try clear hfz70_4
      try clear hfz70_5
      try clear hfz71_0
      try clear hfz71_1
      try clear hfz71_2
      try clear hfz71_3
      try clear hfz71_4
      try clear hfz71_5
      try clear hfz72_0
      try clear hfz72_1
      try clear hfz72_2
      try clear hfz72_3
      try clear hfz72_4
      try clear hfz72_5
      try clear hfz73_0
      try clear hfz73_1
      try clear hfz73_2
      try clear hfz73_3
      try clear hfz73_4
      try clear hfz73_5
      try clear hfz77_0
      try clear hfz77_1
      try clear hfz77_2
      try clear hfz77_3
      try clear hfz77_4
      try clear hfz77_5
      try clear hfz81_0
      try clear hfz81_1
      try clear hfz81_2
      try clear hfz81_3
      try clear hfz81_4
      try clear hfz81_5
      try clear hfz83_0
      try clear hfz83_1
      try clear hfz83_2
      try clear hfz83_3
      try clear hfz83_4
      try clear hfz83_5
      try clear p2
      obtain ⟨kq, HA, HJ75, HI0, HK, HB⟩ := hcut
      cases kq with
      | zero => exact absurd HA.out (by simp [spec_l5Op.j1])
      | succ kj75 =>
       have H := HA.out
       clear HA
       simp only [spec_l5Op.j1] at H
       revert H
       refine obs_ fun t111 A85 H => ?_
       by_cases c86 : t111 = true
       ·
        subst c86
        rw [if_pos rfl] at H
        revert H
        refine obs_ fun t112 A87 H => ?_
        by_cases c88 : t112 = true
        ·
         subst c88
         rw [if_pos rfl] at H
         simp only [Option.some.injEq, Prod.mk.injEq] at H
         obtain ⟨rfl, rfl, rfl, rfl, rfl, rfl, rfl⟩ := H
         obtain ⟨HGz89, hgz89⟩ := HI0.out
         have hcz89_0 := cellS26_0 HGz89
         have hcz89_1 := cellS26_1 HGz89
         have hcz89_2 := cellS26_2 HGz89
         have hcz89_3 := cellS26_3 HGz89
         have hcz89_4 := cellS26_4 HGz89
         have hcz89_5 := cellS26_5 HGz89
         have hfz89_0 := blk_frozen HGz89 0
         have hfz89_1 := blk_frozen HGz89 1
         have hfz89_2 := blk_frozen HGz89 2
         have hfz89_3 := blk_frozen HGz89 3
         have hfz89_4 := blk_frozen HGz89 4
         have hfz89_5 := blk_frozen HGz89 5
         clear HGz89 hgz89
         go_wp2_with (first | (refine gc_ Tryd.func34 (some 89) #[.int .i64 s0_2] ?_; (with_reducible refine (spec_l2Data.calls s0_2 true _ A85.out).mono ?_); rintro e w' ⟨rfl, ⟨nd, rfl⟩⟩; refine ⟨_, rfl, ?_⟩) | (go_at_call 29; (with_reducible refine (spec_l1In.calls s0_3 (-1) 999 true _ A87.out).mono ?_); rintro e w' ⟨rfl, ⟨nd, rfl⟩⟩))
         go_ret
         exact ⟨zlhpib, zgpjhe, zepaim, zncgdm⟩
        replace c88 := Bool.eq_false_iff.mpr c88
        subst c88
        rw [if_neg fT_] at H
        simp only [Option.some.injEq, Prod.mk.injEq] at H
        obtain ⟨rfl, rfl, rfl, rfl, rfl, rfl, rfl⟩ := H
        obtain ⟨HGz90, hgz90⟩ := HI0.out
        have hcz90_0 := cellS26_0 HGz90
        have hcz90_1 := cellS26_1 HGz90
        have hcz90_2 := cellS26_2 HGz90
        have hcz90_3 := cellS26_3 HGz90
        have hcz90_4 := cellS26_4 HGz90
        have hcz90_5 := cellS26_5 HGz90
        have hfz90_0 := blk_frozen HGz90 0
        have hfz90_1 := blk_frozen HGz90 1
        have hfz90_2 := blk_frozen HGz90 2
        have hfz90_3 := blk_frozen HGz90 3
        have hfz90_4 := blk_frozen HGz90 4
        have hfz90_5 := blk_frozen HGz90 5
        clear HGz90 hgz90
        go_wp2_with (first | (refine gc_ Tryd.func34 (some 89) #[.int .i64 s0_2] ?_; (with_reducible refine (spec_l2Data.calls s0_2 true _ A85.out).mono ?_); rintro e w' ⟨rfl, ⟨nd, rfl⟩⟩; refine ⟨_, rfl, ?_⟩) | (go_at_call 29; (with_reducible refine (spec_l1In.calls s0_3 (-1) 999 false _ A87.out).mono ?_); rintro e w' ⟨rfl, ⟨nd, rfl⟩⟩))
        go_ret
        exact ⟨zlhpib, zgpjhe, zepaim, zncgdm⟩
       ·
        replace c86 := Bool.eq_false_iff.mpr c86
        subst c86
        rw [if_neg fT_] at H
        simp only [Option.some.injEq, Prod.mk.injEq] at H
        obtain ⟨rfl, rfl, rfl, rfl, rfl, rfl, rfl⟩ := H
        obtain ⟨HGz91, hgz91⟩ := HI0.out
        have hcz91_0 := cellS26_0 HGz91
        have hcz91_1 := cellS26_1 HGz91
        have hcz91_2 := cellS26_2 HGz91
        have hcz91_3 := cellS26_3 HGz91
        have hcz91_4 := cellS26_4 HGz91
        have hcz91_5 := cellS26_5 HGz91
        have hfz91_0 := blk_frozen HGz91 0
        have hfz91_1 := blk_frozen HGz91 1
        have hfz91_2 := blk_frozen HGz91 2
        have hfz91_3 := blk_frozen HGz91 3
        have hfz91_4 := blk_frozen HGz91 4
        have hfz91_5 := blk_frozen HGz91 5
        clear HGz91 hgz91
        go_wp2_with (first | (refine gc_ Tryd.func34 (some 89) #[.int .i64 s0_2] ?_; (with_reducible refine (spec_l2Data.calls s0_2 false _ A85.out).mono ?_); rintro e w' ⟨rfl, ⟨nd, rfl⟩⟩; refine ⟨_, rfl, ?_⟩))
        go_ret
        exact ⟨zlhpib, zgpjhe, zepaim, zncgdm⟩
 replace c3 := Bool.eq_false_iff.mpr c3
 subst c3
 rw [if_neg fT_] at H
 simp only [Option.some.injEq, Prod.mk.injEq] at H
 obtain ⟨rfl, rfl, rfl, rfl, rfl, rfl, rfl⟩ := H
 obtain ⟨HGz92, hgz92⟩ := HI0.out
 have hcz92_0 := cellS26_0 HGz92
 have hcz92_1 := cellS26_1 HGz92
 have hcz92_2 := cellS26_2 HGz92
 have hcz92_3 := cellS26_3 HGz92
 have hcz92_4 := cellS26_4 HGz92
 have hcz92_5 := cellS26_5 HGz92
 have hfz92_0 := blk_frozen HGz92 0
 have hfz92_1 := blk_frozen HGz92 1
 have hfz92_2 := blk_frozen HGz92 2
 have hfz92_3 := blk_frozen HGz92 3
 have hfz92_4 := blk_frozen HGz92 4
 have hfz92_5 := blk_frozen HGz92 5
 clear HGz92 hgz92
 go_enter Tryd.func14, Tryd.ntmps14
 go_wp2_with (first | (refine gc_ Tryd.func29 (some 8) #[.int .i64 s0_0, .int .i64 1, .int .i64 8] ?_; (with_reducible refine (spec_l1In.calls s0_0 1 8 false _ A2.out).mono ?_); rintro e w' ⟨rfl, ⟨nd, rfl⟩⟩; refine ⟨_, rfl, ?_⟩))
 go_ret
 exact ⟨zlhpib, zgpjhe, zepaim, zncgdm⟩

/-- An operation's cells, from an address on. -/
structure AtOp_ (W : World) (p : Addr) (f0 : Int) (f1 : ByteArray) (f2 : Int) (f3 : Int) (f4 : Bool) (f5 : Bool) : Prop where
 c0 : W.cell? p = some (.int .i64 f0)
 c1 : W.cell? ⟨p.block, p.off + 1, none⟩ = some (.string f1)
 c2 : W.cell? ⟨p.block, p.off + 2, none⟩ = some (.int .i64 f2)
 c3 : W.cell? ⟨p.block, p.off + 3, none⟩ = some (.int .i64 f3)
 c4 : W.cell? ⟨p.block, p.off + 4, none⟩ = some (.bool f4)
 c5 : W.cell? ⟨p.block, p.off + 5, none⟩ = some (.bool f5)
theorem AtOp_.below {W W1 : World} {p : Addr} {f0 : Int} {f1 : ByteArray} {f2 f3 : Int} {f4 f5 : Bool} (h : AtOp_ W p f0 f1 f2 f3 f4 f5) (hb : Below W.heap.size W W1) : AtOp_ W1 p f0 f1 f2 f3 f4 f5 := ⟨pb hb h.c0, pb hb h.c1, pb hb h.c2, pb hb h.c3, pb hb h.c4, pb hb h.c5⟩
theorem AtOp_.alloc {W : World} {p : Addr} {f0 : Int} {f1 : ByteArray} {f2 f3 : Int} {f4 f5 : Bool} (h : AtOp_ W p f0 f1 f2 f3 f4 f5) (o : Obj) : AtOp_ (W.alloc o) p f0 f1 f2 f3 f4 f5 := h.below (below_alloc (Below.refl _ _) o)
theorem AtOp_.drewN {W : World} {p : Addr} {f0 : Int} {f1 : ByteArray} {f2 f3 : Int} {f4 f5 : Bool} (h : AtOp_ W p f0 f1 f2 f3 f4 f5) (m : Nat) : AtOp_ (W.drewN m) p f0 f1 f2 f3 f4 f5 := ⟨h.c0, h.c1, h.c2, h.c3, h.c4, h.c5⟩
theorem AtOp_.drew {W : World} {p : Addr} {f0 : Int} {f1 : ByteArray} {f2 f3 : Int} {f4 f5 : Bool} (h : AtOp_ W p f0 f1 f2 f3 f4 f5) : AtOp_ W.drew p f0 f1 f2 f3 f4 f5 := ⟨h.c0, h.c1, h.c2, h.c3, h.c4, h.c5⟩
theorem AtOp_.at_ {W : World} {p : Addr} {f0 : Int} {f1 : ByteArray} {f2 f3 : Int} {f4 f5 : Bool} {w' : World} {m : Nat} (hq : W.drewN m = w') (h : AtOp_ W p f0 f1 f2 f3 f4 f5) : AtOp_ w' p f0 f1 f2 f3 f4 f5 := by subst hq; exact AtOp_.drewN h m
theorem spec_l5Op.callsAt (k : Nat) (p_ : Addr) (g : Nat) (s0_0 : Int) (s0_1 : ByteArray) (s0_2 : Int) (s0_3 : Int) (s0_4 : Bool) (s0_5 : Bool) (r1 : Int) (r2 : Int) (r3 : ByteArray) (r4 : Int) (r5 : Int) (r6 : Bool) (r7 : Bool) (w0 w : World) (hI : AtOp_ w p_ s0_0 s0_1 s0_2 s0_3 s0_4 s0_5) (hB : Below w0.heap.size w0 w) (h : spec_l5Op.f k s0_0 s0_1 s0_2 s0_3 s0_4 s0_5 = some (r1, r2, r3, r4, r5, r6, r7)) :
  Calls Tryd.prog 14 #[.pointer (some p_)] w fun e w' => e = .returned (.int .i64 r1) ∧ AtOp_ w' p_ r2 r3 r4 r5 r6 r7 ∧ Below w0.heap.size w0 w' ∧ KeepBut w w' g none := by
 have HI0 := aa hI
 have HK := aa (KeepBut.refl w g none)
 have HL := aa hB.size
 clear hI
 have HW0 := aa hB.size
 have HB := aa hB
 clear hB
 have H : ((spec_l1In.f s0_0 1 8).bind fun t101 => (if t101 = true then ((spec_l5Path.f s0_0).bind fun t102 => (if t102 = true then ((spec_l5Data.f s0_0).bind fun t103 => (if t103 = true then ((spec_l5Version.f s0_0).bind fun t104 => (if t104 = true then (if s0_0 = 3 then (spec_l5Op.j0 k false s0_0 s0_1 s0_2 s0_3 s0_4 s0_5) else (if s0_4 = true then (spec_l5Op.j0 k true s0_0 s0_1 s0_2 s0_3 s0_4 s0_5) else (spec_l5Op.j0 k s0_5 s0_0 s0_1 s0_2 s0_3 s0_4 s0_5))) else (if s0_3 = 0 then (if s0_0 = 3 then (spec_l5Op.j0 k false s0_0 s0_1 s0_2 s0_3 s0_4 s0_5) else (if s0_4 = true then (spec_l5Op.j0 k true s0_0 s0_1 s0_2 s0_3 s0_4 s0_5) else (spec_l5Op.j0 k s0_5 s0_0 s0_1 s0_2 s0_3 s0_4 s0_5))) else (spec_l5Op.j0 k true s0_0 s0_1 s0_2 s0_3 s0_4 s0_5)))) else (if s0_2 = 0 then ((spec_l5Version.f s0_0).bind fun t105 => (if t105 = true then (if s0_0 = 3 then (spec_l5Op.j0 k false s0_0 s0_1 s0_2 s0_3 s0_4 s0_5) else (if s0_4 = true then (spec_l5Op.j0 k true s0_0 s0_1 s0_2 s0_3 s0_4 s0_5) else (spec_l5Op.j0 k s0_5 s0_0 s0_1 s0_2 s0_3 s0_4 s0_5))) else (if s0_3 = 0 then (if s0_0 = 3 then (spec_l5Op.j0 k false s0_0 s0_1 s0_2 s0_3 s0_4 s0_5) else (if s0_4 = true then (spec_l5Op.j0 k true s0_0 s0_1 s0_2 s0_3 s0_4 s0_5) else (spec_l5Op.j0 k s0_5 s0_0 s0_1 s0_2 s0_3 s0_4 s0_5))) else (spec_l5Op.j0 k true s0_0 s0_1 s0_2 s0_3 s0_4 s0_5)))) else (spec_l5Op.j0 k true s0_0 s0_1 s0_2 s0_3 s0_4 s0_5)))) else (if s0_1.toList = ([] : List UInt8) then ((spec_l5Data.f s0_0).bind fun t106 => (if t106 = true then ((spec_l5Version.f s0_0).bind fun t107 => (if t107 = true then (if s0_0 = 3 then (spec_l5Op.j0 k false s0_0 s0_1 s0_2 s0_3 s0_4 s0_5) else (if s0_4 = true then (spec_l5Op.j0 k true s0_0 s0_1 s0_2 s0_3 s0_4 s0_5) else (spec_l5Op.j0 k s0_5 s0_0 s0_1 s0_2 s0_3 s0_4 s0_5))) else (if s0_3 = 0 then (if s0_0 = 3 then (spec_l5Op.j0 k false s0_0 s0_1 s0_2 s0_3 s0_4 s0_5) else (if s0_4 = true then (spec_l5Op.j0 k true s0_0 s0_1 s0_2 s0_3 s0_4 s0_5) else (spec_l5Op.j0 k s0_5 s0_0 s0_1 s0_2 s0_3 s0_4 s0_5))) else (spec_l5Op.j0 k true s0_0 s0_1 s0_2 s0_3 s0_4 s0_5)))) else (if s0_2 = 0 then ((spec_l5Version.f s0_0).bind fun t108 => (if t108 = true then (if s0_0 = 3 then (spec_l5Op.j0 k false s0_0 s0_1 s0_2 s0_3 s0_4 s0_5) else (if s0_4 = true then (spec_l5Op.j0 k true s0_0 s0_1 s0_2 s0_3 s0_4 s0_5) else (spec_l5Op.j0 k s0_5 s0_0 s0_1 s0_2 s0_3 s0_4 s0_5))) else (if s0_3 = 0 then (if s0_0 = 3 then (spec_l5Op.j0 k false s0_0 s0_1 s0_2 s0_3 s0_4 s0_5) else (if s0_4 = true then (spec_l5Op.j0 k true s0_0 s0_1 s0_2 s0_3 s0_4 s0_5) else (spec_l5Op.j0 k s0_5 s0_0 s0_1 s0_2 s0_3 s0_4 s0_5))) else (spec_l5Op.j0 k true s0_0 s0_1 s0_2 s0_3 s0_4 s0_5)))) else (spec_l5Op.j0 k true s0_0 s0_1 s0_2 s0_3 s0_4 s0_5)))) else (spec_l5Op.j0 k true s0_0 s0_1 s0_2 s0_3 s0_4 s0_5)))) else (some (1, s0_0, s0_1, s0_2, s0_3, s0_4, s0_5)))) = some (r1, r2, r3, r4, r5, r6, r7) := h
 clear h
 revert H
 refine obs_ fun t101 A2 H => ?_
 by_cases c3 : t101 = true
 ·
  subst c3
  rw [if_pos rfl] at H
  have HC4 := aa H
  clear H
  have HGz5 := HI0.out
  have hcz5_0 := HGz5.c0
  have hcz5_1 := HGz5.c1
  have hcz5_2 := HGz5.c2
  have hcz5_3 := HGz5.c3
  have hcz5_4 := HGz5.c4
  have hcz5_5 := HGz5.c5
  clear HGz5
  go_enter Tryd.func14, Tryd.ntmps14
  go_upto_region 3 with (first | (refine gc_ Tryd.func29 (some 8) #[.int .i64 s0_0, .int .i64 1, .int .i64 8] ?_; (with_reducible refine (spec_l1In.calls s0_0 1 8 true _ A2.out).mono ?_); rintro e w' ⟨rfl, ⟨nd, rfl⟩⟩; refine ⟨_, rfl, ?_⟩))
  (try simp only [Act.put, List.setIfInBounds_toArray, List.set_cons_zero, List.set_cons_succ])
  go_cut [71] (fun v71 wc => ∃ (kq : Nat) (x71_3 : Bool), v71 = .bool x71_3 ∧ Aside0 (spec_l5Op.j0 kq x71_3 s0_0 s0_1 s0_2 s0_3 s0_4 s0_5 = some (r1, r2, r3, r4, r5, r6, r7)) ∧ Aside0 (kq ≤ k) ∧ Aside0 (AtOp_ wc p_ s0_0 s0_1 s0_2 s0_3 s0_4 s0_5) ∧ Aside0 (KeepBut w wc g none) ∧ Aside0 (Below w0.heap.size w0 wc))
  case first =>
   have H := HC4.out
   clear HC4
   revert H
   refine obs_ fun t102 A6 H => ?_
   by_cases c7 : t102 = true
   ·
    subst c7
    rw [if_pos rfl] at H
    revert H
    refine obs_ fun t103 A8 H => ?_
    by_cases c9 : t103 = true
    ·
     subst c9
     rw [if_pos rfl] at H
     revert H
     refine obs_ fun t104 A10 H => ?_
     by_cases c11 : t104 = true
     ·
      subst c11
      rw [if_pos rfl] at H
      revert H
      refine itE_ (fun c12b0 c12b1 H => ?_) fun c12b0 c12b1 H => ?_
      ·
       (first | rw [c12b0] | (simp only [i64_w, i32_w]; rw [c12b0]) | (simp only [c12b2, Bool.not_false, Bool.not_true]) | skip)
       have H' := aa H
       clear H
       have HGz13 := HI0.out
       have hcz13_0 := HGz13.c0
       have hcz13_1 := HGz13.c1
       have hcz13_2 := HGz13.c2
       have hcz13_3 := HGz13.c3
       have hcz13_4 := HGz13.c4
       have hcz13_5 := HGz13.c5
       clear HGz13
       go_wp2_with (first | (refine gc_ Tryd.func30 (some 14) #[.int .i64 s0_0] ?_; (with_reducible refine (spec_l5Path.calls s0_0 true _ A6.out).mono ?_); rintro e w' ⟨rfl, ⟨nd, rfl⟩⟩; refine ⟨_, rfl, ?_⟩) | (go_at_call 31; (with_reducible refine (spec_l5Data.calls s0_0 true _ A8.out).mono ?_); rintro e w' ⟨rfl, ⟨nd, rfl⟩⟩) | (go_at_call 32; (with_reducible refine (spec_l5Version.calls s0_0 true _ A10.out).mono ?_); rintro e w' ⟨rfl, ⟨nd, rfl⟩⟩))
       go_meet
       case rel => exact ⟨_, (false), zagbkp, H', ⟨zpacfg⟩, ⟨zihimb⟩, ⟨zncgdm⟩, ⟨zjjbob⟩⟩
      (first | rw [c12b0] | (simp only [i64_w, i32_w]; rw [c12b0]) | (simp only [c12b2, Bool.not_false, Bool.not_true]) | skip)
      by_cases c14 : s0_4 = true
      ·
       subst c14
       rw [if_pos rfl] at H
       have H' := aa H
       clear H
       have HGz15 := HI0.out
       have hcz15_0 := HGz15.c0
       have hcz15_1 := HGz15.c1
       have hcz15_2 := HGz15.c2
       have hcz15_3 := HGz15.c3
       have hcz15_4 := HGz15.c4
       have hcz15_5 := HGz15.c5
       clear HGz15
       go_wp2_with (first | (refine gc_ Tryd.func30 (some 14) #[.int .i64 s0_0] ?_; (with_reducible refine (spec_l5Path.calls s0_0 true _ A6.out).mono ?_); rintro e w' ⟨rfl, ⟨nd, rfl⟩⟩; refine ⟨_, rfl, ?_⟩) | (go_at_call 31; (with_reducible refine (spec_l5Data.calls s0_0 true _ A8.out).mono ?_); rintro e w' ⟨rfl, ⟨nd, rfl⟩⟩) | (go_at_call 32; (with_reducible refine (spec_l5Version.calls s0_0 true _ A10.out).mono ?_); rintro e w' ⟨rfl, ⟨nd, rfl⟩⟩))
       go_meet
       case rel => exact ⟨_, (true), zagbkp, H', ⟨zpacfg⟩, ⟨zihimb⟩, ⟨zncgdm⟩, ⟨zjjbob⟩⟩
      replace c14 := Bool.eq_false_iff.mpr c14
      subst c14
      rw [if_neg fT_] at H
      have H' := aa H
      clear H
      have HGz16 := HI0.out
      have hcz16_0 := HGz16.c0
      have hcz16_1 := HGz16.c1
      have hcz16_2 := HGz16.c2
      have hcz16_3 := HGz16.c3
      have hcz16_4 := HGz16.c4
      have hcz16_5 := HGz16.c5
      clear HGz16
      go_wp2_with (first | (refine gc_ Tryd.func30 (some 14) #[.int .i64 s0_0] ?_; (with_reducible refine (spec_l5Path.calls s0_0 true _ A6.out).mono ?_); rintro e w' ⟨rfl, ⟨nd, rfl⟩⟩; refine ⟨_, rfl, ?_⟩) | (go_at_call 31; (with_reducible refine (spec_l5Data.calls s0_0 true _ A8.out).mono ?_); rintro e w' ⟨rfl, ⟨nd, rfl⟩⟩) | (go_at_call 32; (with_reducible refine (spec_l5Version.calls s0_0 true _ A10.out).mono ?_); rintro e w' ⟨rfl, ⟨nd, rfl⟩⟩))
      go_meet
      case rel => exact ⟨_, (s0_5), zagbkp, H', ⟨zpacfg⟩, ⟨zihimb⟩, ⟨zncgdm⟩, ⟨zjjbob⟩⟩
     replace c11 := Bool.eq_false_iff.mpr c11
     subst c11
     rw [if_neg fT_] at H
     revert H
     refine itE_ (fun c17b0 c17b1 H => ?_) fun c17b0 c17b1 H => ?_
     ·
      revert H
      refine itE_ (fun c18b0 c18b1 H => ?_) fun c18b0 c18b1 H => ?_
      ·
       have H' := aa H
       clear H
       have HGz19 := HI0.out
       have hcz19_0 := HGz19.c0
       have hcz19_1 := HGz19.c1
       have hcz19_2 := HGz19.c2
       have hcz19_3 := HGz19.c3
       have hcz19_4 := HGz19.c4
       have hcz19_5 := HGz19.c5
       clear HGz19
       go_wp2_with (first | (refine gc_ Tryd.func30 (some 14) #[.int .i64 s0_0] ?_; (with_reducible refine (spec_l5Path.calls s0_0 true _ A6.out).mono ?_); rintro e w' ⟨rfl, ⟨nd, rfl⟩⟩; refine ⟨_, rfl, ?_⟩) | (go_at_call 31; (with_reducible refine (spec_l5Data.calls s0_0 true _ A8.out).mono ?_); rintro e w' ⟨rfl, ⟨nd, rfl⟩⟩) | (go_at_call 32; (with_reducible refine (spec_l5Version.calls s0_0 false _ A10.out).mono ?_); rintro e w' ⟨rfl, ⟨nd, rfl⟩⟩))
       go_meet
       case rel => exact ⟨_, (false), zagbkp, H', ⟨zpacfg⟩, ⟨zihimb⟩, ⟨zncgdm⟩, ⟨zjjbob⟩⟩
      by_cases c20 : s0_4 = true
      ·
       subst c20
       rw [if_pos rfl] at H
       have H' := aa H
       clear H
       have HGz21 := HI0.out
       have hcz21_0 := HGz21.c0
       have hcz21_1 := HGz21.c1
       have hcz21_2 := HGz21.c2
       have hcz21_3 := HGz21.c3
       have hcz21_4 := HGz21.c4
       have hcz21_5 := HGz21.c5
       clear HGz21
       go_wp2_with (first | (refine gc_ Tryd.func30 (some 14) #[.int .i64 s0_0] ?_; (with_reducible refine (spec_l5Path.calls s0_0 true _ A6.out).mono ?_); rintro e w' ⟨rfl, ⟨nd, rfl⟩⟩; refine ⟨_, rfl, ?_⟩) | (go_at_call 31; (with_reducible refine (spec_l5Data.calls s0_0 true _ A8.out).mono ?_); rintro e w' ⟨rfl, ⟨nd, rfl⟩⟩) | (go_at_call 32; (with_reducible refine (spec_l5Version.calls s0_0 false _ A10.out).mono ?_); rintro e w' ⟨rfl, ⟨nd, rfl⟩⟩))
       go_meet
       case rel => exact ⟨_, (true), zagbkp, H', ⟨zpacfg⟩, ⟨zihimb⟩, ⟨zncgdm⟩, ⟨zjjbob⟩⟩
      replace c20 := Bool.eq_false_iff.mpr c20
      subst c20
      rw [if_neg fT_] at H
      have H' := aa H
      clear H
      have HGz22 := HI0.out
      have hcz22_0 := HGz22.c0
      have hcz22_1 := HGz22.c1
      have hcz22_2 := HGz22.c2
      have hcz22_3 := HGz22.c3
      have hcz22_4 := HGz22.c4
      have hcz22_5 := HGz22.c5
      clear HGz22
      go_wp2_with (first | (refine gc_ Tryd.func30 (some 14) #[.int .i64 s0_0] ?_; (with_reducible refine (spec_l5Path.calls s0_0 true _ A6.out).mono ?_); rintro e w' ⟨rfl, ⟨nd, rfl⟩⟩; refine ⟨_, rfl, ?_⟩) | (go_at_call 31; (with_reducible refine (spec_l5Data.calls s0_0 true _ A8.out).mono ?_); rintro e w' ⟨rfl, ⟨nd, rfl⟩⟩) | (go_at_call 32; (with_reducible refine (spec_l5Version.calls s0_0 false _ A10.out).mono ?_); rintro e w' ⟨rfl, ⟨nd, rfl⟩⟩))
      go_meet
      case rel => exact ⟨_, (s0_5), zagbkp, H', ⟨zpacfg⟩, ⟨zihimb⟩, ⟨zncgdm⟩, ⟨zjjbob⟩⟩
     have H' := aa H
     clear H
     have HGz23 := HI0.out
     have hcz23_0 := HGz23.c0
     have hcz23_1 := HGz23.c1
     have hcz23_2 := HGz23.c2
     have hcz23_3 := HGz23.c3
     have hcz23_4 := HGz23.c4
     have hcz23_5 := HGz23.c5
     clear HGz23
     go_wp2_with (first | (refine gc_ Tryd.func30 (some 14) #[.int .i64 s0_0] ?_; (with_reducible refine (spec_l5Path.calls s0_0 true _ A6.out).mono ?_); rintro e w' ⟨rfl, ⟨nd, rfl⟩⟩; refine ⟨_, rfl, ?_⟩) | (go_at_call 31; (with_reducible refine (spec_l5Data.calls s0_0 true _ A8.out).mono ?_); rintro e w' ⟨rfl, ⟨nd, rfl⟩⟩) | (go_at_call 32; (with_reducible refine (spec_l5Version.calls s0_0 false _ A10.out).mono ?_); rintro e w' ⟨rfl, ⟨nd, rfl⟩⟩))
     go_meet
     case rel => exact ⟨_, (true), zagbkp, H', ⟨zpacfg⟩, ⟨zihimb⟩, ⟨zncgdm⟩, ⟨zjjbob⟩⟩
    replace c9 := Bool.eq_false_iff.mpr c9
    subst c9
    rw [if_neg fT_] at H
    revert H
    refine itE_ (fun c24b0 c24b1 H => ?_) fun c24b0 c24b1 H => ?_
    ·
     revert H
     refine obs_ fun t105 A25 H => ?_
     by_cases c26 : t105 = true
     ·
      subst c26
      rw [if_pos rfl] at H
      revert H
      refine itE_ (fun c27b0 c27b1 H => ?_) fun c27b0 c27b1 H => ?_
      ·
       have H' := aa H
       clear H
       have HGz28 := HI0.out
       have hcz28_0 := HGz28.c0
       have hcz28_1 := HGz28.c1
       have hcz28_2 := HGz28.c2
       have hcz28_3 := HGz28.c3
       have hcz28_4 := HGz28.c4
       have hcz28_5 := HGz28.c5
       clear HGz28
       go_wp2_with (first | (refine gc_ Tryd.func30 (some 14) #[.int .i64 s0_0] ?_; (with_reducible refine (spec_l5Path.calls s0_0 true _ A6.out).mono ?_); rintro e w' ⟨rfl, ⟨nd, rfl⟩⟩; refine ⟨_, rfl, ?_⟩) | (go_at_call 31; (with_reducible refine (spec_l5Data.calls s0_0 false _ A8.out).mono ?_); rintro e w' ⟨rfl, ⟨nd, rfl⟩⟩) | (go_at_call 32; (with_reducible refine (spec_l5Version.calls s0_0 true _ A25.out).mono ?_); rintro e w' ⟨rfl, ⟨nd, rfl⟩⟩))
       go_meet
       case rel => exact ⟨_, (false), zagbkp, H', ⟨zpacfg⟩, ⟨zihimb⟩, ⟨zncgdm⟩, ⟨zjjbob⟩⟩
      by_cases c29 : s0_4 = true
      ·
       subst c29
       rw [if_pos rfl] at H
       have H' := aa H
       clear H
       have HGz30 := HI0.out
       have hcz30_0 := HGz30.c0
       have hcz30_1 := HGz30.c1
       have hcz30_2 := HGz30.c2
       have hcz30_3 := HGz30.c3
       have hcz30_4 := HGz30.c4
       have hcz30_5 := HGz30.c5
       clear HGz30
       go_wp2_with (first | (refine gc_ Tryd.func30 (some 14) #[.int .i64 s0_0] ?_; (with_reducible refine (spec_l5Path.calls s0_0 true _ A6.out).mono ?_); rintro e w' ⟨rfl, ⟨nd, rfl⟩⟩; refine ⟨_, rfl, ?_⟩) | (go_at_call 31; (with_reducible refine (spec_l5Data.calls s0_0 false _ A8.out).mono ?_); rintro e w' ⟨rfl, ⟨nd, rfl⟩⟩) | (go_at_call 32; (with_reducible refine (spec_l5Version.calls s0_0 true _ A25.out).mono ?_); rintro e w' ⟨rfl, ⟨nd, rfl⟩⟩))
       go_meet
       case rel => exact ⟨_, (true), zagbkp, H', ⟨zpacfg⟩, ⟨zihimb⟩, ⟨zncgdm⟩, ⟨zjjbob⟩⟩
      replace c29 := Bool.eq_false_iff.mpr c29
      subst c29
      rw [if_neg fT_] at H
      have H' := aa H
      clear H
      have HGz31 := HI0.out
      have hcz31_0 := HGz31.c0
      have hcz31_1 := HGz31.c1
      have hcz31_2 := HGz31.c2
      have hcz31_3 := HGz31.c3
      have hcz31_4 := HGz31.c4
      have hcz31_5 := HGz31.c5
      clear HGz31
      go_wp2_with (first | (refine gc_ Tryd.func30 (some 14) #[.int .i64 s0_0] ?_; (with_reducible refine (spec_l5Path.calls s0_0 true _ A6.out).mono ?_); rintro e w' ⟨rfl, ⟨nd, rfl⟩⟩; refine ⟨_, rfl, ?_⟩) | (go_at_call 31; (with_reducible refine (spec_l5Data.calls s0_0 false _ A8.out).mono ?_); rintro e w' ⟨rfl, ⟨nd, rfl⟩⟩) | (go_at_call 32; (with_reducible refine (spec_l5Version.calls s0_0 true _ A25.out).mono ?_); rintro e w' ⟨rfl, ⟨nd, rfl⟩⟩))
      go_meet
      case rel => exact ⟨_, (s0_5), zagbkp, H', ⟨zpacfg⟩, ⟨zihimb⟩, ⟨zncgdm⟩, ⟨zjjbob⟩⟩
     replace c26 := Bool.eq_false_iff.mpr c26
     subst c26
     rw [if_neg fT_] at H
     revert H
     refine itE_ (fun c32b0 c32b1 H => ?_) fun c32b0 c32b1 H => ?_
     ·
      revert H
      refine itE_ (fun c33b0 c33b1 H => ?_) fun c33b0 c33b1 H => ?_
      ·
       have H' := aa H
       clear H
       have HGz34 := HI0.out
       have hcz34_0 := HGz34.c0
       have hcz34_1 := HGz34.c1
       have hcz34_2 := HGz34.c2
       have hcz34_3 := HGz34.c3
       have hcz34_4 := HGz34.c4
       have hcz34_5 := HGz34.c5
       clear HGz34
       go_wp2_with (first | (refine gc_ Tryd.func30 (some 14) #[.int .i64 s0_0] ?_; (with_reducible refine (spec_l5Path.calls s0_0 true _ A6.out).mono ?_); rintro e w' ⟨rfl, ⟨nd, rfl⟩⟩; refine ⟨_, rfl, ?_⟩) | (go_at_call 31; (with_reducible refine (spec_l5Data.calls s0_0 false _ A8.out).mono ?_); rintro e w' ⟨rfl, ⟨nd, rfl⟩⟩) | (go_at_call 32; (with_reducible refine (spec_l5Version.calls s0_0 false _ A25.out).mono ?_); rintro e w' ⟨rfl, ⟨nd, rfl⟩⟩))
       go_meet
       case rel => exact ⟨_, (false), zagbkp, H', ⟨zpacfg⟩, ⟨zihimb⟩, ⟨zncgdm⟩, ⟨zjjbob⟩⟩
      by_cases c35 : s0_4 = true
      ·
       subst c35
       rw [if_pos rfl] at H
       have H' := aa H
       clear H
       have HGz36 := HI0.out
       have hcz36_0 := HGz36.c0
       have hcz36_1 := HGz36.c1
       have hcz36_2 := HGz36.c2
       have hcz36_3 := HGz36.c3
       have hcz36_4 := HGz36.c4
       have hcz36_5 := HGz36.c5
       clear HGz36
       go_wp2_with (first | (refine gc_ Tryd.func30 (some 14) #[.int .i64 s0_0] ?_; (with_reducible refine (spec_l5Path.calls s0_0 true _ A6.out).mono ?_); rintro e w' ⟨rfl, ⟨nd, rfl⟩⟩; refine ⟨_, rfl, ?_⟩) | (go_at_call 31; (with_reducible refine (spec_l5Data.calls s0_0 false _ A8.out).mono ?_); rintro e w' ⟨rfl, ⟨nd, rfl⟩⟩) | (go_at_call 32; (with_reducible refine (spec_l5Version.calls s0_0 false _ A25.out).mono ?_); rintro e w' ⟨rfl, ⟨nd, rfl⟩⟩))
       go_meet
       case rel => exact ⟨_, (true), zagbkp, H', ⟨zpacfg⟩, ⟨zihimb⟩, ⟨zncgdm⟩, ⟨zjjbob⟩⟩
      replace c35 := Bool.eq_false_iff.mpr c35
      subst c35
      rw [if_neg fT_] at H
      have H' := aa H
      clear H
      have HGz37 := HI0.out
      have hcz37_0 := HGz37.c0
      have hcz37_1 := HGz37.c1
      have hcz37_2 := HGz37.c2
      have hcz37_3 := HGz37.c3
      have hcz37_4 := HGz37.c4
      have hcz37_5 := HGz37.c5
      clear HGz37
      go_wp2_with (first | (refine gc_ Tryd.func30 (some 14) #[.int .i64 s0_0] ?_; (with_reducible refine (spec_l5Path.calls s0_0 true _ A6.out).mono ?_); rintro e w' ⟨rfl, ⟨nd, rfl⟩⟩; refine ⟨_, rfl, ?_⟩) | (go_at_call 31; (with_reducible refine (spec_l5Data.calls s0_0 false _ A8.out).mono ?_); rintro e w' ⟨rfl, ⟨nd, rfl⟩⟩) | (go_at_call 32; (with_reducible refine (spec_l5Version.calls s0_0 false _ A25.out).mono ?_); rintro e w' ⟨rfl, ⟨nd, rfl⟩⟩))
      go_meet
      case rel => exact ⟨_, (s0_5), zagbkp, H', ⟨zpacfg⟩, ⟨zihimb⟩, ⟨zncgdm⟩, ⟨zjjbob⟩⟩
     have H' := aa H
     clear H
     have HGz38 := HI0.out
     have hcz38_0 := HGz38.c0
     have hcz38_1 := HGz38.c1
     have hcz38_2 := HGz38.c2
     have hcz38_3 := HGz38.c3
     have hcz38_4 := HGz38.c4
     have hcz38_5 := HGz38.c5
     clear HGz38
     go_wp2_with (first | (refine gc_ Tryd.func30 (some 14) #[.int .i64 s0_0] ?_; (with_reducible refine (spec_l5Path.calls s0_0 true _ A6.out).mono ?_); rintro e w' ⟨rfl, ⟨nd, rfl⟩⟩; refine ⟨_, rfl, ?_⟩) | (go_at_call 31; (with_reducible refine (spec_l5Data.calls s0_0 false _ A8.out).mono ?_); rintro e w' ⟨rfl, ⟨nd, rfl⟩⟩) | (go_at_call 32; (with_reducible refine (spec_l5Version.calls s0_0 false _ A25.out).mono ?_); rintro e w' ⟨rfl, ⟨nd, rfl⟩⟩))
     go_meet
     case rel => exact ⟨_, (true), zagbkp, H', ⟨zpacfg⟩, ⟨zihimb⟩, ⟨zncgdm⟩, ⟨zjjbob⟩⟩
    have H' := aa H
    clear H
    have HGz39 := HI0.out
    have hcz39_0 := HGz39.c0
    have hcz39_1 := HGz39.c1
    have hcz39_2 := HGz39.c2
    have hcz39_3 := HGz39.c3
    have hcz39_4 := HGz39.c4
    have hcz39_5 := HGz39.c5
    clear HGz39
    go_wp2_with (first | (refine gc_ Tryd.func30 (some 14) #[.int .i64 s0_0] ?_; (with_reducible refine (spec_l5Path.calls s0_0 true _ A6.out).mono ?_); rintro e w' ⟨rfl, ⟨nd, rfl⟩⟩; refine ⟨_, rfl, ?_⟩) | (go_at_call 31; (with_reducible refine (spec_l5Data.calls s0_0 false _ A8.out).mono ?_); rintro e w' ⟨rfl, ⟨nd, rfl⟩⟩))
    go_meet
    case rel => exact ⟨_, (true), zagbkp, H', ⟨zpacfg⟩, ⟨zihimb⟩, ⟨zncgdm⟩, ⟨zjjbob⟩⟩
   replace c7 := Bool.eq_false_iff.mpr c7
   subst c7
   rw [if_neg fT_] at H
   revert H
   refine itE_ (fun c40b0 c40b1 H => ?_) fun c40b0 c40b1 H => ?_
   ·
    revert H
    refine obs_ fun t106 A41 H => ?_
    by_cases c42 : t106 = true
    ·
     subst c42
     rw [if_pos rfl] at H
     revert H
     refine obs_ fun t107 A43 H => ?_
     by_cases c44 : t107 = true
     ·
      subst c44
      rw [if_pos rfl] at H
      revert H
      refine itE_ (fun c45b0 c45b1 H => ?_) fun c45b0 c45b1 H => ?_
      ·
       have H' := aa H
       clear H
       have HGz46 := HI0.out
       have hcz46_0 := HGz46.c0
       have hcz46_1 := HGz46.c1
       have hcz46_2 := HGz46.c2
       have hcz46_3 := HGz46.c3
       have hcz46_4 := HGz46.c4
       have hcz46_5 := HGz46.c5
       clear HGz46
       go_wp2_with (first | (refine gc_ Tryd.func30 (some 14) #[.int .i64 s0_0] ?_; (with_reducible refine (spec_l5Path.calls s0_0 false _ A6.out).mono ?_); rintro e w' ⟨rfl, ⟨nd, rfl⟩⟩; refine ⟨_, rfl, ?_⟩) | (go_at_call 31; (with_reducible refine (spec_l5Data.calls s0_0 true _ A41.out).mono ?_); rintro e w' ⟨rfl, ⟨nd, rfl⟩⟩) | (go_at_call 32; (with_reducible refine (spec_l5Version.calls s0_0 true _ A43.out).mono ?_); rintro e w' ⟨rfl, ⟨nd, rfl⟩⟩))
       go_meet
       case rel => exact ⟨_, (false), zagbkp, H', ⟨zpacfg⟩, ⟨zihimb⟩, ⟨zncgdm⟩, ⟨zjjbob⟩⟩
      by_cases c47 : s0_4 = true
      ·
       subst c47
       rw [if_pos rfl] at H
       have H' := aa H
       clear H
       have HGz48 := HI0.out
       have hcz48_0 := HGz48.c0
       have hcz48_1 := HGz48.c1
       have hcz48_2 := HGz48.c2
       have hcz48_3 := HGz48.c3
       have hcz48_4 := HGz48.c4
       have hcz48_5 := HGz48.c5
       clear HGz48
       go_wp2_with (first | (refine gc_ Tryd.func30 (some 14) #[.int .i64 s0_0] ?_; (with_reducible refine (spec_l5Path.calls s0_0 false _ A6.out).mono ?_); rintro e w' ⟨rfl, ⟨nd, rfl⟩⟩; refine ⟨_, rfl, ?_⟩) | (go_at_call 31; (with_reducible refine (spec_l5Data.calls s0_0 true _ A41.out).mono ?_); rintro e w' ⟨rfl, ⟨nd, rfl⟩⟩) | (go_at_call 32; (with_reducible refine (spec_l5Version.calls s0_0 true _ A43.out).mono ?_); rintro e w' ⟨rfl, ⟨nd, rfl⟩⟩))
       go_meet
       case rel => exact ⟨_, (true), zagbkp, H', ⟨zpacfg⟩, ⟨zihimb⟩, ⟨zncgdm⟩, ⟨zjjbob⟩⟩
      replace c47 := Bool.eq_false_iff.mpr c47
      subst c47
      rw [if_neg fT_] at H
      have H' := aa H
      clear H
      have HGz49 := HI0.out
      have hcz49_0 := HGz49.c0
      have hcz49_1 := HGz49.c1
      have hcz49_2 := HGz49.c2
      have hcz49_3 := HGz49.c3
      have hcz49_4 := HGz49.c4
      have hcz49_5 := HGz49.c5
      clear HGz49
      go_wp2_with (first | (refine gc_ Tryd.func30 (some 14) #[.int .i64 s0_0] ?_; (with_reducible refine (spec_l5Path.calls s0_0 false _ A6.out).mono ?_); rintro e w' ⟨rfl, ⟨nd, rfl⟩⟩; refine ⟨_, rfl, ?_⟩) | (go_at_call 31; (with_reducible refine (spec_l5Data.calls s0_0 true _ A41.out).mono ?_); rintro e w' ⟨rfl, ⟨nd, rfl⟩⟩) | (go_at_call 32; (with_reducible refine (spec_l5Version.calls s0_0 true _ A43.out).mono ?_); rintro e w' ⟨rfl, ⟨nd, rfl⟩⟩))
      go_meet
      case rel => exact ⟨_, (s0_5), zagbkp, H', ⟨zpacfg⟩, ⟨zihimb⟩, ⟨zncgdm⟩, ⟨zjjbob⟩⟩
     replace c44 := Bool.eq_false_iff.mpr c44
     subst c44
     rw [if_neg fT_] at H
     revert H
     refine itE_ (fun c50b0 c50b1 H => ?_) fun c50b0 c50b1 H => ?_
     ·
      revert H
      refine itE_ (fun c51b0 c51b1 H => ?_) fun c51b0 c51b1 H => ?_
      ·
       have H' := aa H
       clear H
       have HGz52 := HI0.out
       have hcz52_0 := HGz52.c0
       have hcz52_1 := HGz52.c1
       have hcz52_2 := HGz52.c2
       have hcz52_3 := HGz52.c3
       have hcz52_4 := HGz52.c4
       have hcz52_5 := HGz52.c5
       clear HGz52
       go_wp2_with (first | (refine gc_ Tryd.func30 (some 14) #[.int .i64 s0_0] ?_; (with_reducible refine (spec_l5Path.calls s0_0 false _ A6.out).mono ?_); rintro e w' ⟨rfl, ⟨nd, rfl⟩⟩; refine ⟨_, rfl, ?_⟩) | (go_at_call 31; (with_reducible refine (spec_l5Data.calls s0_0 true _ A41.out).mono ?_); rintro e w' ⟨rfl, ⟨nd, rfl⟩⟩) | (go_at_call 32; (with_reducible refine (spec_l5Version.calls s0_0 false _ A43.out).mono ?_); rintro e w' ⟨rfl, ⟨nd, rfl⟩⟩))
       go_meet
       case rel => exact ⟨_, (false), zagbkp, H', ⟨zpacfg⟩, ⟨zihimb⟩, ⟨zncgdm⟩, ⟨zjjbob⟩⟩
      by_cases c53 : s0_4 = true
      ·
       subst c53
       rw [if_pos rfl] at H
       have H' := aa H
       clear H
       have HGz54 := HI0.out
       have hcz54_0 := HGz54.c0
       have hcz54_1 := HGz54.c1
       have hcz54_2 := HGz54.c2
       have hcz54_3 := HGz54.c3
       have hcz54_4 := HGz54.c4
       have hcz54_5 := HGz54.c5
       clear HGz54
       go_wp2_with (first | (refine gc_ Tryd.func30 (some 14) #[.int .i64 s0_0] ?_; (with_reducible refine (spec_l5Path.calls s0_0 false _ A6.out).mono ?_); rintro e w' ⟨rfl, ⟨nd, rfl⟩⟩; refine ⟨_, rfl, ?_⟩) | (go_at_call 31; (with_reducible refine (spec_l5Data.calls s0_0 true _ A41.out).mono ?_); rintro e w' ⟨rfl, ⟨nd, rfl⟩⟩) | (go_at_call 32; (with_reducible refine (spec_l5Version.calls s0_0 false _ A43.out).mono ?_); rintro e w' ⟨rfl, ⟨nd, rfl⟩⟩))
       go_meet
       case rel => exact ⟨_, (true), zagbkp, H', ⟨zpacfg⟩, ⟨zihimb⟩, ⟨zncgdm⟩, ⟨zjjbob⟩⟩
      replace c53 := Bool.eq_false_iff.mpr c53
      subst c53
      rw [if_neg fT_] at H
      have H' := aa H
      clear H
      have HGz55 := HI0.out
      have hcz55_0 := HGz55.c0
      have hcz55_1 := HGz55.c1
      have hcz55_2 := HGz55.c2
      have hcz55_3 := HGz55.c3
      have hcz55_4 := HGz55.c4
      have hcz55_5 := HGz55.c5
      clear HGz55
      go_wp2_with (first | (refine gc_ Tryd.func30 (some 14) #[.int .i64 s0_0] ?_; (with_reducible refine (spec_l5Path.calls s0_0 false _ A6.out).mono ?_); rintro e w' ⟨rfl, ⟨nd, rfl⟩⟩; refine ⟨_, rfl, ?_⟩) | (go_at_call 31; (with_reducible refine (spec_l5Data.calls s0_0 true _ A41.out).mono ?_); rintro e w' ⟨rfl, ⟨nd, rfl⟩⟩) | (go_at_call 32; (with_reducible refine (spec_l5Version.calls s0_0 false _ A43.out).mono ?_); rintro e w' ⟨rfl, ⟨nd, rfl⟩⟩))
      go_meet
      case rel => exact ⟨_, (s0_5), zagbkp, H', ⟨zpacfg⟩, ⟨zihimb⟩, ⟨zncgdm⟩, ⟨zjjbob⟩⟩
     have H' := aa H
     clear H
     have HGz56 := HI0.out
     have hcz56_0 := HGz56.c0
     have hcz56_1 := HGz56.c1
     have hcz56_2 := HGz56.c2
     have hcz56_3 := HGz56.c3
     have hcz56_4 := HGz56.c4
     have hcz56_5 := HGz56.c5
     clear HGz56
     go_wp2_with (first | (refine gc_ Tryd.func30 (some 14) #[.int .i64 s0_0] ?_; (with_reducible refine (spec_l5Path.calls s0_0 false _ A6.out).mono ?_); rintro e w' ⟨rfl, ⟨nd, rfl⟩⟩; refine ⟨_, rfl, ?_⟩) | (go_at_call 31; (with_reducible refine (spec_l5Data.calls s0_0 true _ A41.out).mono ?_); rintro e w' ⟨rfl, ⟨nd, rfl⟩⟩) | (go_at_call 32; (with_reducible refine (spec_l5Version.calls s0_0 false _ A43.out).mono ?_); rintro e w' ⟨rfl, ⟨nd, rfl⟩⟩))
     go_meet
     case rel => exact ⟨_, (true), zagbkp, H', ⟨zpacfg⟩, ⟨zihimb⟩, ⟨zncgdm⟩, ⟨zjjbob⟩⟩
    replace c42 := Bool.eq_false_iff.mpr c42
    subst c42
    rw [if_neg fT_] at H
    revert H
    refine itE_ (fun c57b0 c57b1 H => ?_) fun c57b0 c57b1 H => ?_
    ·
     revert H
     refine obs_ fun t108 A58 H => ?_
     by_cases c59 : t108 = true
     ·
      subst c59
      rw [if_pos rfl] at H
      revert H
      refine itE_ (fun c60b0 c60b1 H => ?_) fun c60b0 c60b1 H => ?_
      ·
       have H' := aa H
       clear H
       have HGz61 := HI0.out
       have hcz61_0 := HGz61.c0
       have hcz61_1 := HGz61.c1
       have hcz61_2 := HGz61.c2
       have hcz61_3 := HGz61.c3
       have hcz61_4 := HGz61.c4
       have hcz61_5 := HGz61.c5
       clear HGz61
       go_wp2_with (first | (refine gc_ Tryd.func30 (some 14) #[.int .i64 s0_0] ?_; (with_reducible refine (spec_l5Path.calls s0_0 false _ A6.out).mono ?_); rintro e w' ⟨rfl, ⟨nd, rfl⟩⟩; refine ⟨_, rfl, ?_⟩) | (go_at_call 31; (with_reducible refine (spec_l5Data.calls s0_0 false _ A41.out).mono ?_); rintro e w' ⟨rfl, ⟨nd, rfl⟩⟩) | (go_at_call 32; (with_reducible refine (spec_l5Version.calls s0_0 true _ A58.out).mono ?_); rintro e w' ⟨rfl, ⟨nd, rfl⟩⟩))
       go_meet
       case rel => exact ⟨_, (false), zagbkp, H', ⟨zpacfg⟩, ⟨zihimb⟩, ⟨zncgdm⟩, ⟨zjjbob⟩⟩
      by_cases c62 : s0_4 = true
      ·
       subst c62
       rw [if_pos rfl] at H
       have H' := aa H
       clear H
       have HGz63 := HI0.out
       have hcz63_0 := HGz63.c0
       have hcz63_1 := HGz63.c1
       have hcz63_2 := HGz63.c2
       have hcz63_3 := HGz63.c3
       have hcz63_4 := HGz63.c4
       have hcz63_5 := HGz63.c5
       clear HGz63
       go_wp2_with (first | (refine gc_ Tryd.func30 (some 14) #[.int .i64 s0_0] ?_; (with_reducible refine (spec_l5Path.calls s0_0 false _ A6.out).mono ?_); rintro e w' ⟨rfl, ⟨nd, rfl⟩⟩; refine ⟨_, rfl, ?_⟩) | (go_at_call 31; (with_reducible refine (spec_l5Data.calls s0_0 false _ A41.out).mono ?_); rintro e w' ⟨rfl, ⟨nd, rfl⟩⟩) | (go_at_call 32; (with_reducible refine (spec_l5Version.calls s0_0 true _ A58.out).mono ?_); rintro e w' ⟨rfl, ⟨nd, rfl⟩⟩))
       go_meet
       case rel => exact ⟨_, (true), zagbkp, H', ⟨zpacfg⟩, ⟨zihimb⟩, ⟨zncgdm⟩, ⟨zjjbob⟩⟩
      replace c62 := Bool.eq_false_iff.mpr c62
      subst c62
      rw [if_neg fT_] at H
      have H' := aa H
      clear H
      have HGz64 := HI0.out
      have hcz64_0 := HGz64.c0
      have hcz64_1 := HGz64.c1
      have hcz64_2 := HGz64.c2
      have hcz64_3 := HGz64.c3
      have hcz64_4 := HGz64.c4
      have hcz64_5 := HGz64.c5
      clear HGz64
      go_wp2_with (first | (refine gc_ Tryd.func30 (some 14) #[.int .i64 s0_0] ?_; (with_reducible refine (spec_l5Path.calls s0_0 false _ A6.out).mono ?_); rintro e w' ⟨rfl, ⟨nd, rfl⟩⟩; refine ⟨_, rfl, ?_⟩) | (go_at_call 31; (with_reducible refine (spec_l5Data.calls s0_0 false _ A41.out).mono ?_); rintro e w' ⟨rfl, ⟨nd, rfl⟩⟩) | (go_at_call 32; (with_reducible refine (spec_l5Version.calls s0_0 true _ A58.out).mono ?_); rintro e w' ⟨rfl, ⟨nd, rfl⟩⟩))
      go_meet
      case rel => exact ⟨_, (s0_5), zagbkp, H', ⟨zpacfg⟩, ⟨zihimb⟩, ⟨zncgdm⟩, ⟨zjjbob⟩⟩
     replace c59 := Bool.eq_false_iff.mpr c59
     subst c59
     rw [if_neg fT_] at H
     revert H
     refine itE_ (fun c65b0 c65b1 H => ?_) fun c65b0 c65b1 H => ?_
     ·
      revert H
      refine itE_ (fun c66b0 c66b1 H => ?_) fun c66b0 c66b1 H => ?_
      ·
       have H' := aa H
       clear H
       have HGz67 := HI0.out
       have hcz67_0 := HGz67.c0
       have hcz67_1 := HGz67.c1
       have hcz67_2 := HGz67.c2
       have hcz67_3 := HGz67.c3
       have hcz67_4 := HGz67.c4
       have hcz67_5 := HGz67.c5
       clear HGz67
       go_wp2_with (first | (refine gc_ Tryd.func30 (some 14) #[.int .i64 s0_0] ?_; (with_reducible refine (spec_l5Path.calls s0_0 false _ A6.out).mono ?_); rintro e w' ⟨rfl, ⟨nd, rfl⟩⟩; refine ⟨_, rfl, ?_⟩) | (go_at_call 31; (with_reducible refine (spec_l5Data.calls s0_0 false _ A41.out).mono ?_); rintro e w' ⟨rfl, ⟨nd, rfl⟩⟩) | (go_at_call 32; (with_reducible refine (spec_l5Version.calls s0_0 false _ A58.out).mono ?_); rintro e w' ⟨rfl, ⟨nd, rfl⟩⟩))
       go_meet
       case rel => exact ⟨_, (false), zagbkp, H', ⟨zpacfg⟩, ⟨zihimb⟩, ⟨zncgdm⟩, ⟨zjjbob⟩⟩
      by_cases c68 : s0_4 = true
      ·
       subst c68
       rw [if_pos rfl] at H
       have H' := aa H
       clear H
       have HGz69 := HI0.out
       have hcz69_0 := HGz69.c0
       have hcz69_1 := HGz69.c1
       have hcz69_2 := HGz69.c2
       have hcz69_3 := HGz69.c3
       have hcz69_4 := HGz69.c4
       have hcz69_5 := HGz69.c5
       clear HGz69
       go_wp2_with (first | (refine gc_ Tryd.func30 (some 14) #[.int .i64 s0_0] ?_; (with_reducible refine (spec_l5Path.calls s0_0 false _ A6.out).mono ?_); rintro e w' ⟨rfl, ⟨nd, rfl⟩⟩; refine ⟨_, rfl, ?_⟩) | (go_at_call 31; (with_reducible refine (spec_l5Data.calls s0_0 false _ A41.out).mono ?_); rintro e w' ⟨rfl, ⟨nd, rfl⟩⟩) | (go_at_call 32; (with_reducible refine (spec_l5Version.calls s0_0 false _ A58.out).mono ?_); rintro e w' ⟨rfl, ⟨nd, rfl⟩⟩))
       go_meet
       case rel => exact ⟨_, (true), zagbkp, H', ⟨zpacfg⟩, ⟨zihimb⟩, ⟨zncgdm⟩, ⟨zjjbob⟩⟩
      replace c68 := Bool.eq_false_iff.mpr c68
      subst c68
      rw [if_neg fT_] at H
      have H' := aa H
      clear H
      have HGz70 := HI0.out
      have hcz70_0 := HGz70.c0
      have hcz70_1 := HGz70.c1
      have hcz70_2 := HGz70.c2
      have hcz70_3 := HGz70.c3
      have hcz70_4 := HGz70.c4
      have hcz70_5 := HGz70.c5
      clear HGz70
      go_wp2_with (first | (refine gc_ Tryd.func30 (some 14) #[.int .i64 s0_0] ?_; (with_reducible refine (spec_l5Path.calls s0_0 false _ A6.out).mono ?_); rintro e w' ⟨rfl, ⟨nd, rfl⟩⟩; refine ⟨_, rfl, ?_⟩) | (go_at_call 31; (with_reducible refine (spec_l5Data.calls s0_0 false _ A41.out).mono ?_); rintro e w' ⟨rfl, ⟨nd, rfl⟩⟩) | (go_at_call 32; (with_reducible refine (spec_l5Version.calls s0_0 false _ A58.out).mono ?_); rintro e w' ⟨rfl, ⟨nd, rfl⟩⟩))
      go_meet
      case rel => exact ⟨_, (s0_5), zagbkp, H', ⟨zpacfg⟩, ⟨zihimb⟩, ⟨zncgdm⟩, ⟨zjjbob⟩⟩
     have H' := aa H
     clear H
     have HGz71 := HI0.out
     have hcz71_0 := HGz71.c0
     have hcz71_1 := HGz71.c1
     have hcz71_2 := HGz71.c2
     have hcz71_3 := HGz71.c3
     have hcz71_4 := HGz71.c4
     have hcz71_5 := HGz71.c5
     clear HGz71
     go_wp2_with (first | (refine gc_ Tryd.func30 (some 14) #[.int .i64 s0_0] ?_; (with_reducible refine (spec_l5Path.calls s0_0 false _ A6.out).mono ?_); rintro e w' ⟨rfl, ⟨nd, rfl⟩⟩; refine ⟨_, rfl, ?_⟩) | (go_at_call 31; (with_reducible refine (spec_l5Data.calls s0_0 false _ A41.out).mono ?_); rintro e w' ⟨rfl, ⟨nd, rfl⟩⟩) | (go_at_call 32; (with_reducible refine (spec_l5Version.calls s0_0 false _ A58.out).mono ?_); rintro e w' ⟨rfl, ⟨nd, rfl⟩⟩))
     go_meet
     case rel => exact ⟨_, (true), zagbkp, H', ⟨zpacfg⟩, ⟨zihimb⟩, ⟨zncgdm⟩, ⟨zjjbob⟩⟩
    have H' := aa H
    clear H
    have HGz72 := HI0.out
    have hcz72_0 := HGz72.c0
    have hcz72_1 := HGz72.c1
    have hcz72_2 := HGz72.c2
    have hcz72_3 := HGz72.c3
    have hcz72_4 := HGz72.c4
    have hcz72_5 := HGz72.c5
    clear HGz72
    go_wp2_with (first | (refine gc_ Tryd.func30 (some 14) #[.int .i64 s0_0] ?_; (with_reducible refine (spec_l5Path.calls s0_0 false _ A6.out).mono ?_); rintro e w' ⟨rfl, ⟨nd, rfl⟩⟩; refine ⟨_, rfl, ?_⟩) | (go_at_call 31; (with_reducible refine (spec_l5Data.calls s0_0 false _ A41.out).mono ?_); rintro e w' ⟨rfl, ⟨nd, rfl⟩⟩))
    go_meet
    case rel => exact ⟨_, (true), zagbkp, H', ⟨zpacfg⟩, ⟨zihimb⟩, ⟨zncgdm⟩, ⟨zjjbob⟩⟩
   have H' := aa H
   clear H
   have HGz73 := HI0.out
   have hcz73_0 := HGz73.c0
   have hcz73_1 := HGz73.c1
   have hcz73_2 := HGz73.c2
   have hcz73_3 := HGz73.c3
   have hcz73_4 := HGz73.c4
   have hcz73_5 := HGz73.c5
   clear HGz73
   go_wp2_with (first | (refine gc_ Tryd.func30 (some 14) #[.int .i64 s0_0] ?_; (with_reducible refine (spec_l5Path.calls s0_0 false _ A6.out).mono ?_); rintro e w' ⟨rfl, ⟨nd, rfl⟩⟩; refine ⟨_, rfl, ?_⟩))
   go_meet
   case rel => exact ⟨_, (true), zagbkp, H', ⟨zpacfg⟩, ⟨zihimb⟩, ⟨zncgdm⟩, ⟨zjjbob⟩⟩
  case rest =>
   clear HC4
   try clear c2
   try clear p2
   try clear c3
   try clear c4
   try clear c5
   try clear c7
   try clear c24b0
   try clear c24b1
   try clear c32b0
   try clear c32b1
   try clear c33b0
   try clear c33b1
   try clear c35
   try clear c40b0
   try clear c40b1
   try clear c42
   try clear c44
   try clear c45b0
   try clear c45b1
   try clear c47
   try clear c50b0
   try clear c50b1
   try clear c51b0
   try clear c51b1
   try clear c53
   try clear c57b0
   try clear c57b1
   try clear c59
   try clear c60b0
   try clear c60b1
   try clear c62
   try clear c65b0
   try clear c65b1
   try clear c66b0
   try clear c66b1
   try clear c68
   try clear hcz34_0
   try clear hcz34_1
   try clear hcz34_2
   try clear hcz34_3
   try clear hcz34_4
   try clear hcz34_5
   try clear hcz36_0
   try clear hcz36_1
   try clear hcz36_2
   try clear hcz36_3
   try clear hcz36_4
   try clear hcz36_5
   try clear hcz37_0
   try clear hcz37_1
   try clear hcz37_2
   try clear hcz37_3
   try clear hcz37_4
   try clear hcz37_5
   try clear hcz38_0
   try clear hcz38_1
   try clear hcz38_2
   try clear hcz38_3
   try clear hcz38_4
   try clear hcz38_5
   try clear hcz39_0
   try clear hcz39_1
   try clear hcz39_2
   try clear hcz39_3
   try clear hcz39_4
   try clear hcz39_5
   try clear hcz46_0
   try clear hcz46_1
   try clear hcz46_2
   try clear hcz46_3
   try clear hcz46_4
   try clear hcz46_5
   try clear hcz48_0
   try clear hcz48_1
   try clear hcz48_2
   try clear hcz48_3
   try clear hcz48_4
   try clear hcz48_5
   try clear hcz49_0
   try clear hcz49_1
   try clear hcz49_2
   try clear hcz49_3
   try clear hcz49_4
   try clear hcz49_5
   try clear hcz52_0
   try clear hcz52_1
   try clear hcz52_2
   try clear hcz52_3
   try clear hcz52_4
   try clear hcz52_5
   try clear hcz54_0
   try clear hcz54_1
   try clear hcz54_2
   try clear hcz54_3
   try clear hcz54_4
   try clear hcz54_5
   try clear hcz55_0
   try clear hcz55_1
   try clear hcz55_2
   try clear hcz55_3
   try clear hcz55_4
   try clear hcz55_5
   try clear hcz56_0
   try clear hcz56_1
   try clear hcz56_2
   try clear hcz56_3
   try clear hcz56_4
   try clear hcz56_5
   try clear hcz61_0
   try clear hcz61_1
   try clear hcz61_2
   try clear hcz61_3
   try clear hcz61_4
   try clear hcz61_5
   try clear hcz63_0
   try clear hcz63_1
   try clear hcz63_2
   try clear hcz63_3
   try clear hcz63_4
   try clear hcz63_5
   try clear hcz64_0
   try clear hcz64_1
   try clear hcz64_2
   try clear hcz64_3
   try clear hcz64_4
   try clear hcz64_5
   try clear hcz67_0
   try clear hcz67_1
   try clear hcz67_2
   try clear hcz67_3
   try clear hcz67_4
   try clear hcz67_5
   try clear hcz69_0
   try clear hcz69_1
   try clear hcz69_2
   try clear hcz69_3
   try clear hcz69_4
   try clear hcz69_5
   try clear hcz70_0
   try clear hcz70_1
   try clear hcz70_2
   try clear hcz70_3
   try clear hcz70_4
   try clear hcz70_5
   try clear hcz71_0
   try clear hcz71_1
   try clear hcz71_2
   try clear hcz71_3
   try clear hcz71_4
   try clear hcz71_5
   try clear hcz72_0
   try clear hcz72_1
   try clear hcz72_2
   try clear hcz72_3
   try clear hcz72_4
   try clear hcz72_5
   try clear hcz73_0
   try clear hcz73_1
   try clear hcz73_2
   try clear hcz73_3
   try clear hcz73_4
   try clear hcz73_5
   try clear hfz34_0
   try clear hfz34_1
   try clear hfz34_2
   try clear hfz34_3
   try clear hfz34_4
   try clear hfz34_5
   try clear hfz36_0
   try clear hfz36_1
   try clear hfz36_2
   try clear hfz36_3
   try clear hfz36_4
   try clear hfz36_5
   try clear hfz37_0
   try clear hfz37_1
   try clear hfz37_2
   try clear hfz37_3
   try clear hfz37_4
   try clear hfz37_5
   try clear hfz38_0
   try clear hfz38_1
   try clear hfz38_2
   try clear hfz38_3
   try clear hfz38_4
   try clear hfz38_5
   try clear hfz39_0
   try clear hfz39_1
   try clear hfz39_2
   try clear hfz39_3
   try clear hfz39_4
   try clear hfz39_5
   try clear hfz46_0
   try clear hfz46_1
   try clear hfz46_2
   try clear hfz46_3
   try clear hfz46_4
   try clear hfz46_5
   try clear hfz48_0
   try clear hfz48_1
   try clear hfz48_2
   try clear hfz48_3
   try clear hfz48_4
   try clear hfz48_5
   try clear hfz49_0
   try clear hfz49_1
   try clear hfz49_2
   try clear hfz49_3
   try clear hfz49_4
   try clear hfz49_5
   try clear hfz52_0
   try clear hfz52_1
   try clear hfz52_2
   try clear hfz52_3
   try clear hfz52_4
   try clear hfz52_5
   try clear hfz54_0
   try clear hfz54_1
   try clear hfz54_2
   try clear hfz54_3
   try clear hfz54_4
   try clear hfz54_5
   try clear hfz55_0
   try clear hfz55_1
   try clear hfz55_2
   try clear hfz55_3
   try clear hfz55_4
   try clear hfz55_5
   try clear hfz56_0
   try clear hfz56_1
   try clear hfz56_2
   try clear hfz56_3
   try clear hfz56_4
   try clear hfz56_5
   try clear hfz61_0
   try clear hfz61_1
   try clear hfz61_2
   try clear hfz61_3
   try clear hfz61_4
   try clear hfz61_5
   try clear hfz63_0
   try clear hfz63_1
   try clear hfz63_2
   try clear hfz63_3
   try clear hfz63_4
   try clear hfz63_5
   try clear hfz64_0
   try clear hfz64_1
   try clear hfz64_2
   try clear hfz64_3
   try clear hfz64_4
   try clear hfz64_5
   try clear hfz67_0
   try clear hfz67_1
   try clear hfz67_2
   try clear hfz67_3
   try clear hfz67_4
   try clear hfz67_5
   try clear hfz69_0
   try clear hfz69_1
   try clear hfz69_2
   try clear hfz69_3
   try clear hfz69_4
   try clear hfz69_5
   try clear hfz70_0
   try clear hfz70_1
   try clear hfz70_2
   try clear hfz70_3
   try clear hfz70_4
   try clear hfz70_5
   try clear hfz71_0
   try clear hfz71_1
   try clear hfz71_2
   try clear hfz71_3
   try clear hfz71_4
   try clear hfz71_5
   try clear hfz72_0
   try clear hfz72_1
   try clear hfz72_2
   try clear hfz72_3
   try clear hfz72_4
   try clear hfz72_5
   try clear hfz73_0
   try clear hfz73_1
   try clear hfz73_2
   try clear hfz73_3
   try clear hfz73_4
   try clear hfz73_5
   obtain ⟨kq, x71_3, rfl, HA, HJ3, HI0, HK, HB⟩ := hcut
   cases kq with
   | zero => exact absurd HA.out (by simp [spec_l5Op.j0])
   | succ kj3 =>
    have H := HA.out
    clear HA
    simp only [spec_l5Op.j0] at H
    by_cases c74 : x71_3 = true
    ·
     subst c74
     rw [if_pos rfl] at H
     simp only [Option.some.injEq, Prod.mk.injEq] at H
     obtain ⟨rfl, rfl, rfl, rfl, rfl, rfl, rfl⟩ := H
     go_wp2
     go_ret
     exact ⟨zlhpib, zihimb, zjjbob, zncgdm⟩
    ·
     replace c74 := Bool.eq_false_iff.mpr c74
     subst c74
     rw [if_neg fT_] at H
     revert H
     refine obs_ fun t109 A75 H => ?_
     have HC76 := aa H
     clear H
     have HGz77 := HI0.out
     have hcz77_0 := HGz77.c0
     have hcz77_1 := HGz77.c1
     have hcz77_2 := HGz77.c2
     have hcz77_3 := HGz77.c3
     have hcz77_4 := HGz77.c4
     have hcz77_5 := HGz77.c5
     clear HGz77
     go_upto_if 76 with (first | (refine gc_ Tryd.func30 (some 76) #[.int .i64 s0_0] ?_; (with_reducible refine (spec_l5Path.calls s0_0 t109 _ A75.out).mono ?_); rintro e w' ⟨rfl, ⟨nd, rfl⟩⟩; refine ⟨_, rfl, ?_⟩))
     (try simp only [Act.put, List.setIfInBounds_toArray, List.set_cons_zero, List.set_cons_succ])
     go_cut [] (fun wc => ∃ (kq : Nat), Aside0 (spec_l5Op.j1 kq s0_0 s0_1 s0_2 s0_3 s0_4 s0_5 = some (r1, r2, r3, r4, r5, r6, r7)) ∧ Aside0 (kq ≤ kj3) ∧ Aside0 (AtOp_ wc p_ s0_0 s0_1 s0_2 s0_3 s0_4 s0_5) ∧ Aside0 (KeepBut w wc g none) ∧ Aside0 (Below w0.heap.size w0 wc))
     case first =>
      have H := HC76.out
      clear HC76
      by_cases c78 : t109 = true
      ·
       subst c78
       rw [if_pos rfl] at H
       revert H
       refine obs_ fun t110 A79 H => ?_
       revert H
       refine itE_ (fun c80b0 c80b1 H => ?_) fun c80b0 c80b1 H => ?_
       ·
        (first | rw [c80b0] | (simp only [i64_w, i32_w]; rw [c80b0]) | (simp only [c80b2, Bool.not_false, Bool.not_true]) | skip)
        have H' := aa H
        clear H
        have HGz81 := HI0.out
        have hcz81_0 := HGz81.c0
        have hcz81_1 := HGz81.c1
        have hcz81_2 := HGz81.c2
        have hcz81_3 := HGz81.c3
        have hcz81_4 := HGz81.c4
        have hcz81_5 := HGz81.c5
        clear HGz81
        go_wp2_with (first | (refine gc_ Tryd.func33 (some 81) #[.string s0_1] ?_; (with_reducible refine (spec_l1Fault.calls kj3 s0_1 t110 _ A79.out).mono ?_); rintro e w82 ⟨rfl, hb⟩; refine ⟨_, rfl, ?_⟩; replace HI0 := aa (AtOp_.below zihimb hb); replace HK := aa (KeepBut.trans zncgdm (KeepBut.of_below hb g none) (.inl rfl)); replace HB := aa (below_step zjjbob hb); (try clear hb hb2 hk hi)))
        go_meet
        case rel => exact ⟨_, H', ⟨by have := HJ3.out; first | omega | exact Nat.le_refl _⟩, ⟨zihimb⟩, ⟨zncgdm⟩, ⟨zjjbob⟩⟩
       (first | rw [c80b0] | (simp only [i64_w, i32_w]; rw [c80b0]) | (simp only [c80b2, Bool.not_false, Bool.not_true]) | skip)
       simp only [Option.some.injEq, Prod.mk.injEq] at H
       obtain ⟨rfl, rfl, rfl, rfl, rfl, rfl, rfl⟩ := H
       have HGz83 := HI0.out
       have hcz83_0 := HGz83.c0
       have hcz83_1 := HGz83.c1
       have hcz83_2 := HGz83.c2
       have hcz83_3 := HGz83.c3
       have hcz83_4 := HGz83.c4
       have hcz83_5 := HGz83.c5
       clear HGz83
       go_wp2_with (first | (refine gc_ Tryd.func33 (some 81) #[.string s0_1] ?_; (with_reducible refine (spec_l1Fault.calls kj3 s0_1 t110 _ A79.out).mono ?_); rintro e w84 ⟨rfl, hb⟩; refine ⟨_, rfl, ?_⟩; replace HI0 := aa (AtOp_.below zihimb hb); replace HK := aa (KeepBut.trans zncgdm (KeepBut.of_below hb g none) (.inl rfl)); replace HB := aa (below_step zjjbob hb); (try clear hb hb2 hk hi)))
       go_ret
       exact ⟨zlhpib, zihimb, zjjbob, zncgdm⟩
      replace c78 := Bool.eq_false_iff.mpr c78
      subst c78
      rw [if_neg fT_] at H
      have H' := aa H
      clear H
      go_wp2
      go_meet
      case rel => exact ⟨_, H', ⟨by have := HJ3.out; first | omega | exact Nat.le_refl _⟩, ⟨zihimb⟩, ⟨zncgdm⟩, ⟨zjjbob⟩⟩
     case rest =>
      clear HC76
      try clear c2
      try clear p2
      try clear c3
      try clear c4
      try clear c5
      try clear c7
      try clear c24b0
      try clear c24b1
      try clear c32b0
      try clear c32b1
      try clear c33b0
      try clear c33b1
      try clear c35
      try clear c40b0
      try clear c40b1
      try clear c42
      try clear c44
      try clear c45b0
      try clear c45b1
      try clear c47
      try clear c50b0
      try clear c50b1
      try clear c51b0
      try clear c51b1
      try clear c53
      try clear c57b0
      try clear c57b1
      try clear c59
      try clear c60b0
      try clear c60b1
      try clear c62
      try clear c65b0
      try clear c65b1
      try clear c66b0
      try clear c66b1
      try clear c68
      try clear c74
      try clear c78
      try clear c80b0
      try clear c80b1
      try clear c80b2
      try clear hcz34_0
      try clear hcz34_1
      try clear hcz34_2
      try clear hcz34_3
      try clear hcz34_4
      try clear hcz34_5
      try clear hcz36_0
      try clear hcz36_1
      try clear hcz36_2
      try clear hcz36_3
      try clear hcz36_4
      try clear hcz36_5
      try clear hcz37_0
      try clear hcz37_1
      try clear hcz37_2
      try clear hcz37_3
      try clear hcz37_4
      try clear hcz37_5
      try clear hcz38_0
      try clear hcz38_1
      try clear hcz38_2
      try clear hcz38_3
      try clear hcz38_4
      try clear hcz38_5
      try clear hcz39_0
      try clear hcz39_1
      try clear hcz39_2
      try clear hcz39_3
      try clear hcz39_4
      try clear hcz39_5
      try clear hcz46_0
      try clear hcz46_1
      try clear hcz46_2
      try clear hcz46_3
      try clear hcz46_4
      try clear hcz46_5
      try clear hcz48_0
      try clear hcz48_1
      try clear hcz48_2
      try clear hcz48_3
      try clear hcz48_4
      try clear hcz48_5
      try clear hcz49_0
      try clear hcz49_1
      try clear hcz49_2
      try clear hcz49_3
      try clear hcz49_4
      try clear hcz49_5
      try clear hcz52_0
      try clear hcz52_1
      try clear hcz52_2
      try clear hcz52_3
      try clear hcz52_4
      try clear hcz52_5
      try clear hcz54_0
      try clear hcz54_1
      try clear hcz54_2
      try clear hcz54_3
      try clear hcz54_4
      try clear hcz54_5
      try clear hcz55_0
      try clear hcz55_1
      try clear hcz55_2
      try clear hcz55_3
      try clear hcz55_4
      try clear hcz55_5
      try clear hcz56_0
      try clear hcz56_1
      try clear hcz56_2
      try clear hcz56_3
      try clear hcz56_4
      try clear hcz56_5
      try clear hcz61_0
      try clear hcz61_1
      try clear hcz61_2
      try clear hcz61_3
      try clear hcz61_4
      try clear hcz61_5
      try clear hcz63_0
      try clear hcz63_1
      try clear hcz63_2
      try clear hcz63_3
      try clear hcz63_4
      try clear hcz63_5
      try clear hcz64_0
      try clear hcz64_1
      try clear hcz64_2
      try clear hcz64_3
      try clear hcz64_4
      try clear hcz64_5
      try clear hcz67_0
      try clear hcz67_1
      try clear hcz67_2
      try clear hcz67_3
      try clear hcz67_4
      try clear hcz67_5
      try clear hcz69_0
      try clear hcz69_1
      try clear hcz69_2
      try clear hcz69_3
      try clear hcz69_4
      try clear hcz69_5
      try clear hcz70_0
      try clear hcz70_1
      try clear hcz70_2
      try clear hcz70_3
      try clear hcz70_4
      try clear hcz70_5
      try clear hcz71_0
      try clear hcz71_1
      try clear hcz71_2
      try clear hcz71_3
      try clear hcz71_4
      try clear hcz71_5
      try clear hcz72_0
      try clear hcz72_1
      try clear hcz72_2
      try clear hcz72_3
      try clear hcz72_4
      try clear hcz72_5
      try clear hcz73_0
      try clear hcz73_1
      try clear hcz73_2
      try clear hcz73_3
      try clear hcz73_4
      try clear hcz73_5
      try clear hcz77_0
      try clear hcz77_1
      try clear hcz77_2
      try clear hcz77_3
      try clear hcz77_4
      try clear hcz77_5
      try clear hcz81_0
      try clear hcz81_1
      try clear hcz81_2
      try clear hcz81_3
      try clear hcz81_4
      try clear hcz81_5
      try clear hcz83_0
      try clear hcz83_1
      try clear hcz83_2
      try clear hcz83_3
      try clear hcz83_4
      try clear hcz83_5
      try clear hfz34_0
      try clear hfz34_1
      try clear hfz34_2
      try clear hfz34_3
      try clear hfz34_4
      try clear hfz34_5
      try clear hfz36_0
      try clear hfz36_1
      try clear hfz36_2
      try clear hfz36_3
      try clear hfz36_4
      try clear hfz36_5
      try clear hfz37_0
      try clear hfz37_1
      try clear hfz37_2
      try clear hfz37_3
      try clear hfz37_4
      try clear hfz37_5
      try clear hfz38_0
      try clear hfz38_1
      try clear hfz38_2
      try clear hfz38_3
      try clear hfz38_4
      try clear hfz38_5
      try clear hfz39_0
      try clear hfz39_1
      try clear hfz39_2
      try clear hfz39_3
      try clear hfz39_4
      try clear hfz39_5
      try clear hfz46_0
      try clear hfz46_1
      try clear hfz46_2
      try clear hfz46_3
      try clear hfz46_4
      try clear hfz46_5
      try clear hfz48_0
      try clear hfz48_1
      try clear hfz48_2
      try clear hfz48_3
      try clear hfz48_4
      try clear hfz48_5
      try clear hfz49_0
      try clear hfz49_1
      try clear hfz49_2
      try clear hfz49_3
      try clear hfz49_4
      try clear hfz49_5
      try clear hfz52_0
      try clear hfz52_1
      try clear hfz52_2
      try clear hfz52_3
      try clear hfz52_4
      try clear hfz52_5
      try clear hfz54_0
      try clear hfz54_1
      try clear hfz54_2
      try clear hfz54_3
      try clear hfz54_4
      try clear hfz54_5
      try clear hfz55_0
      try clear hfz55_1
      try clear hfz55_2
      try clear hfz55_3
      try clear hfz55_4
      try clear hfz55_5
      try clear hfz56_0
      try clear hfz56_1
      try clear hfz56_2
      try clear hfz56_3
      try clear hfz56_4
      try clear hfz56_5
      try clear hfz61_0
      try clear hfz61_1
      try clear hfz61_2
      try clear hfz61_3
      try clear hfz61_4
      try clear hfz61_5
      try clear hfz63_0
      try clear hfz63_1
      try clear hfz63_2
      try clear hfz63_3
      try clear hfz63_4
      try clear hfz63_5
      try clear hfz64_0
      try clear hfz64_1
      try clear hfz64_2
      try clear hfz64_3
      try clear hfz64_4
      try clear hfz64_5
      try clear hfz67_0
      try clear hfz67_1
      try clear hfz67_2
      try clear hfz67_3
      try clear hfz67_4
      try clear hfz67_5
      try clear hfz69_0
      try clear hfz69_1
      try clear hfz69_2
      try clear hfz69_3
      try clear hfz69_4
      try clear hfz69_5
      try clear hfz70_0
      try clear hfz70_1
      try clear hfz70_2
      try clear hfz70_3
      try clear hfz70_4
      try clear hfz70_5
      try clear hfz71_0
      try clear hfz71_1
      try clear hfz71_2
      try clear hfz71_3
      try clear hfz71_4
      try clear hfz71_5
      try clear hfz72_0
      try clear hfz72_1
      try clear hfz72_2
      try clear hfz72_3
      try clear hfz72_4
      try clear hfz72_5
      try clear hfz73_0
      try clear hfz73_1
      try clear hfz73_2
      try clear hfz73_3
      try clear hfz73_4
      try clear hfz73_5
      try clear hfz77_0
      try clear hfz77_1
      try clear hfz77_2
      try clear hfz77_3
      try clear hfz77_4
      try clear hfz77_5
      try clear hfz81_0
      try clear hfz81_1
      try clear hfz81_2
      try clear hfz81_3
      try clear hfz81_4
      try clear hfz81_5
      try clear hfz83_0
      try clear hfz83_1
      try clear hfz83_2
      try clear hfz83_3
      try clear hfz83_4
      try clear hfz83_5
      try clear p2
      obtain ⟨kq, HA, HJ75, HI0, HK, HB⟩ := hcut
      cases kq with
      | zero => exact absurd HA.out (by simp [spec_l5Op.j1])
      | succ kj75 =>
       have H := HA.out
       clear HA
       simp only [spec_l5Op.j1] at H
       revert H
       refine obs_ fun t111 A85 H => ?_
       by_cases c86 : t111 = true
       ·
        subst c86
        rw [if_pos rfl] at H
        revert H
        refine obs_ fun t112 A87 H => ?_
        by_cases c88 : t112 = true
        ·
         subst c88
         rw [if_pos rfl] at H
         simp only [Option.some.injEq, Prod.mk.injEq] at H
         obtain ⟨rfl, rfl, rfl, rfl, rfl, rfl, rfl⟩ := H
         have HGz89 := HI0.out
         have hcz89_0 := HGz89.c0
         have hcz89_1 := HGz89.c1
         have hcz89_2 := HGz89.c2
         have hcz89_3 := HGz89.c3
         have hcz89_4 := HGz89.c4
         have hcz89_5 := HGz89.c5
         clear HGz89
         go_wp2_with (first | (refine gc_ Tryd.func34 (some 89) #[.int .i64 s0_2] ?_; (with_reducible refine (spec_l2Data.calls s0_2 true _ A85.out).mono ?_); rintro e w' ⟨rfl, ⟨nd, rfl⟩⟩; refine ⟨_, rfl, ?_⟩) | (go_at_call 29; (with_reducible refine (spec_l1In.calls s0_3 (-1) 999 true _ A87.out).mono ?_); rintro e w' ⟨rfl, ⟨nd, rfl⟩⟩))
         go_ret
         exact ⟨zlhpib, zihimb, zjjbob, zncgdm⟩
        replace c88 := Bool.eq_false_iff.mpr c88
        subst c88
        rw [if_neg fT_] at H
        simp only [Option.some.injEq, Prod.mk.injEq] at H
        obtain ⟨rfl, rfl, rfl, rfl, rfl, rfl, rfl⟩ := H
        have HGz90 := HI0.out
        have hcz90_0 := HGz90.c0
        have hcz90_1 := HGz90.c1
        have hcz90_2 := HGz90.c2
        have hcz90_3 := HGz90.c3
        have hcz90_4 := HGz90.c4
        have hcz90_5 := HGz90.c5
        clear HGz90
        go_wp2_with (first | (refine gc_ Tryd.func34 (some 89) #[.int .i64 s0_2] ?_; (with_reducible refine (spec_l2Data.calls s0_2 true _ A85.out).mono ?_); rintro e w' ⟨rfl, ⟨nd, rfl⟩⟩; refine ⟨_, rfl, ?_⟩) | (go_at_call 29; (with_reducible refine (spec_l1In.calls s0_3 (-1) 999 false _ A87.out).mono ?_); rintro e w' ⟨rfl, ⟨nd, rfl⟩⟩))
        go_ret
        exact ⟨zlhpib, zihimb, zjjbob, zncgdm⟩
       ·
        replace c86 := Bool.eq_false_iff.mpr c86
        subst c86
        rw [if_neg fT_] at H
        simp only [Option.some.injEq, Prod.mk.injEq] at H
        obtain ⟨rfl, rfl, rfl, rfl, rfl, rfl, rfl⟩ := H
        have HGz91 := HI0.out
        have hcz91_0 := HGz91.c0
        have hcz91_1 := HGz91.c1
        have hcz91_2 := HGz91.c2
        have hcz91_3 := HGz91.c3
        have hcz91_4 := HGz91.c4
        have hcz91_5 := HGz91.c5
        clear HGz91
        go_wp2_with (first | (refine gc_ Tryd.func34 (some 89) #[.int .i64 s0_2] ?_; (with_reducible refine (spec_l2Data.calls s0_2 false _ A85.out).mono ?_); rintro e w' ⟨rfl, ⟨nd, rfl⟩⟩; refine ⟨_, rfl, ?_⟩))
        go_ret
        exact ⟨zlhpib, zihimb, zjjbob, zncgdm⟩
 replace c3 := Bool.eq_false_iff.mpr c3
 subst c3
 rw [if_neg fT_] at H
 simp only [Option.some.injEq, Prod.mk.injEq] at H
 obtain ⟨rfl, rfl, rfl, rfl, rfl, rfl, rfl⟩ := H
 have HGz92 := HI0.out
 have hcz92_0 := HGz92.c0
 have hcz92_1 := HGz92.c1
 have hcz92_2 := HGz92.c2
 have hcz92_3 := HGz92.c3
 have hcz92_4 := HGz92.c4
 have hcz92_5 := HGz92.c5
 clear HGz92
 go_enter Tryd.func14, Tryd.ntmps14
 go_wp2_with (first | (refine gc_ Tryd.func29 (some 8) #[.int .i64 s0_0, .int .i64 1, .int .i64 8] ?_; (with_reducible refine (spec_l1In.calls s0_0 1 8 false _ A2.out).mono ?_); rintro e w' ⟨rfl, ⟨nd, rfl⟩⟩; refine ⟨_, rfl, ?_⟩))
 go_ret
 exact ⟨zlhpib, zihimb, zjjbob, zncgdm⟩

def SameS_ {σ : Type} (s : σ) (o : Option (Int × σ)) : Prop := ∀ t, o = some t → t.2 = s
theorem SameS_.ite {σ : Type} {s : σ} {c : Prop} [Decidable c] {a b : Option (Int × σ)} (h : SameS_ s a) (k : SameS_ s b) : SameS_ s (if c then a else b) := by
 intro t ht
 by_cases hc : c
 ·
  rw [if_pos hc] at ht; exact h t ht
 rw [if_neg hc] at ht; exact k t ht
theorem SameS_.bind {α σ : Type} {s : σ} {o : Option α} {f : α → Option (Int × σ)} (h : ∀ x, SameS_ s (f x)) : SameS_ s (o.bind f) := by
 intro t ht
 obtain ⟨x, _, hx⟩ := Option.bind_eq_some_iff.mp ht
 exact h x t hx
theorem SameS_.out {σ : Type} {s : σ} (n : Int) : SameS_ s (some (n, s)) := fun t ht => by rw [← Option.some.inj ht]
theorem spec_l5OpV.same_l : ∀ k, (∀ b a0 a1 a2 a3 a4 a5, SameS_ (a0, a1, a2, a3, a4, a5) (spec_l5Op.j0 k b a0 a1 a2 a3 a4 a5)) ∧ (∀ a0 a1 a2 a3 a4 a5, SameS_ (a0, a1, a2, a3, a4, a5) (spec_l5Op.j1 k a0 a1 a2 a3 a4 a5))
 | 0 => ⟨fun _ _ _ _ _ _ _ t h => by simp [spec_l5Op.j0] at h, fun _ _ _ _ _ _ t h => by simp [spec_l5Op.j1] at h⟩
 | k + 1 => by
  obtain ⟨_, ih⟩ := spec_l5OpV.same_l k
  refine ⟨fun b a0 a1 a2 a3 a4 a5 => ?_, fun a0 a1 a2 a3 a4 a5 => ?_⟩
  ·
   unfold spec_l5Op.j0
   with_reducible repeat' first | exact ih _ _ _ _ _ _ | exact SameS_.out _ | refine SameS_.ite ?_ ?_ | refine SameS_.bind (fun _ => ?_)
  ·
   unfold spec_l5Op.j1
   with_reducible repeat' first | exact SameS_.out _ | refine SameS_.ite ?_ ?_ | refine SameS_.bind (fun _ => ?_)
theorem spec_l5OpV.same (k : Nat) (a0 : Int) (a1 : ByteArray) (a2 a3 : Int) (a4 a5 : Bool) : SameS_ (a0, a1, a2, a3, a4, a5) (spec_l5Op.f k a0 a1 a2 a3 a4 a5) := by
 obtain ⟨ih, _⟩ := spec_l5OpV.same_l k
 unfold spec_l5Op.f
 with_reducible repeat' first | exact ih _ _ _ _ _ _ _ | exact SameS_.out _ | refine SameS_.ite ?_ ?_ | refine SameS_.bind (fun _ => ?_)
def spec_l5OpV.f (k : Nat) (a0 : Int) (a1 : ByteArray) (a2 a3 : Int) (a4 a5 : Bool) : Option Int := (spec_l5Op.f k a0 a1 a2 a3 a4 a5).bind fun t => some t.1
theorem spec_l5OpV.mono : ∀ a0 a1 a2 a3 a4 a5 k, LeO (spec_l5OpV.f k a0 a1 a2 a3 a4 a5) (spec_l5OpV.f (k + 1) a0 a1 a2 a3 a4 a5) := by
 intro a0 a1 a2 a3 a4 a5 k
 unfold spec_l5OpV.f
 exact LeO.bind (spec_l5Op.mono _ _ _ _ _ _ _) (fun _ => LeO.refl _)
theorem spec_l5OpV.calls (k : Nat) (a0 : Int) (a1 : ByteArray) (a2 a3 : Int) (a4 a5 : Bool) (r : Int) (w : World) (g : Nat) (hg : w.heap[g]? = some (.cells #[.int .i64 a0, .string a1, .int .i64 a2, .int .i64 a3, .bool a4, .bool a5] 26 (0, 0))) (h : spec_l5OpV.f k a0 a1 a2 a3 a4 a5 = some r) :
  Calls Tryd.prog 14 #[.pointer (some ⟨g, 0, none⟩)] w fun e w' => e = .returned (.int .i64 r) ∧ Below w.heap.size w w' := by
 unfold spec_l5OpV.f at h
 obtain ⟨⟨t1, n0, n1, n2, n3, n4, n5⟩, hN, hu⟩ := Option.bind_eq_some_iff.mp h
 have h2 := spec_l5OpV.same k a0 a1 a2 a3 a4 a5 _ hN
 simp only [Prod.mk.injEq] at h2
 obtain ⟨rfl, rfl, rfl, rfl, rfl, rfl⟩ := h2
 obtain rfl := Option.some.inj hu
 have hlt : g < w.heap.size := (Array.getElem?_eq_some_iff.1 hg).1
 refine (spec_l5Op.calls k g _ _ _ _ _ _ t1 _ _ _ _ _ _ { w with heap := #[] } w ⟨hg, Nat.zero_le _⟩ ⟨rfl, rfl, rfl, Nat.zero_le _, fun i hi => absurd hi (Nat.not_lt_zero _)⟩ hN).mono ?_
 rintro e w' ⟨rfl, hI, hb, hk⟩
 refine ⟨rfl, hb.os, hb.tape, hb.output, hk.1, fun i hi => ?_⟩
 by_cases c : i = g
 ·
  rw [c, hg]; exact hI.1
 exact hk.2 i hi c (by simp)
theorem spec_l5OpV.callsAt (k : Nat) (a0 : Int) (a1 : ByteArray) (a2 a3 : Int) (a4 a5 : Bool) (r : Int) (w : World) (p : Addr) (hp : AtOp_ w p a0 a1 a2 a3 a4 a5) (h : spec_l5OpV.f k a0 a1 a2 a3 a4 a5 = some r) :
  Calls Tryd.prog 14 #[.pointer (some p)] w fun e w' => e = .returned (.int .i64 r) ∧ Below w.heap.size w w' := by
 unfold spec_l5OpV.f at h
 obtain ⟨⟨t1, n0, n1, n2, n3, n4, n5⟩, hN, hu⟩ := Option.bind_eq_some_iff.mp h
 have h2 := spec_l5OpV.same k a0 a1 a2 a3 a4 a5 _ hN
 simp only [Prod.mk.injEq] at h2
 obtain ⟨rfl, rfl, rfl, rfl, rfl, rfl⟩ := h2
 obtain rfl := Option.some.inj hu
 refine (spec_l5Op.callsAt k p w.heap.size _ _ _ _ _ _ t1 _ _ _ _ _ _ { w with heap := #[] } w hp ⟨rfl, rfl, rfl, Nat.zero_le _, fun i hi => absurd hi (Nat.not_lt_zero _)⟩ hN).mono ?_
 rintro e w' ⟨rfl, hI, hb, hk⟩
 exact ⟨rfl, hb.os, hb.tape, hb.output, hk.1, fun i hi => hk.2 i hi (Nat.ne_of_lt hi) (by simp)⟩

end Go.Proofs.YtbeghfdlbokhkaaDoor.Qc
