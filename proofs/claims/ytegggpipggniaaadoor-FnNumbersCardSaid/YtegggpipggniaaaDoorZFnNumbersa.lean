/- A part of the proof that for every input the law FnNumbers returns true: no condition. Functions of the translation, each proved to do what a plain Lean function tells, and what these tell. -/
import Derived.Test.YtegggpipggniaaaDoorQax0
import Derived.Test.YtegggpipggniaaaDoorQax6
import Derived.Test.YtegggpipggniaaaDoorQax8
import Derived.Test.YtegggpipggniaaaDoorQax9
import Derived.Test.YtegggpipggniaaaDoorQax15
import Derived.Test.YtegggpipggniaaaDoorQax19
import Derived.Test.YtegggpipggniaaaDoorQax21
import Derived.Test.YtegggpipggniaaaDoorQax56
import Derived.Test.YtegggpipggniaaaDoorQax63
namespace Go.Proofs.YtegggpipggniaaaDoor.Qa
open Go.RowKit Go.Proofs.YtegggpipggniaaaDoorW.PrintWords Go.Proofs.YtegggpipggniaaaDoorW.PrintLast Go.Proofs.YtegggpipggniaaaDoorW.PrintMore
attribute [local go_sem] max2_int min2_int max_two min_two max_three min_three max_four min_four
set_option linter.unusedVariables false
set_option linter.unusedSimpArgs false
set_option maxHeartbeats 8000000
set_option maxRecDepth 100000
def impl_joined.f (a0 : ByteArray) (a1 : ByteArray) : Option (ByteArray) := if a0.toList = ([47] : List UInt8) then (if a0.size + a1.size ≤ 9223372036854775807 then (some (a0 ++ a1)) else (none)) else (if a0.size + 1 ≤ 9223372036854775807 then (if (a0 ++ (⟨#[47]⟩ : ByteArray)).size + a1.size ≤ 9223372036854775807 then (some ((a0 ++ (⟨#[47]⟩ : ByteArray)) ++ a1)) else (none)) else (none))
theorem impl_joined.calls (a0 : ByteArray) (a1 : ByteArray) (r : ByteArray) (w : World) (h : impl_joined.f a0 a1 = some r) :
  Calls Tryd.prog 43 #[.string a0, .string a1] w fun e w' => e = .returned (.string r) ∧ Drawn0 w w' := by
 have H : (if a0.toList = ([47] : List UInt8) then (if a0.size + a1.size ≤ 9223372036854775807 then (some (a0 ++ a1)) else (none)) else (if a0.size + 1 ≤ 9223372036854775807 then (if (a0 ++ (⟨#[47]⟩ : ByteArray)).size + a1.size ≤ 9223372036854775807 then (some ((a0 ++ (⟨#[47]⟩ : ByteArray)) ++ a1)) else (none)) else (none))) = some r := h
 clear h
 revert H
 refine itE_ (fun c3b0 c3b1 H => ?_) fun c3b0 c3b1 H => ?_
 ·
  revert H
  refine itG_ fun c4 H => ?_
  have c4b0 := eq_true c4
  have c4b1 := decide_eq_true c4
  try have c4b2 : (9223372036854775807 < a0.size + a1.size) = False := eq_false (Nat.not_lt.2 c4)
  try (have c4b3 := c4b2; simp only [ByteArray.size_append] at c4b3)
  obtain rfl := Option.some.inj H
  go_enter Tryd.func43, Tryd.ntmps43
  go_wp2
  go_ret
  exact ⟨zagbkp, ziajdh⟩
 revert H
 refine itG_ fun c5 H => ?_
 have c5b0 := eq_true c5
 have c5b1 := decide_eq_true c5
 try have c5b2 : (9223372036854775807 < a0.size + 1) = False := eq_false (Nat.not_lt.2 c5)
 try (have c5b3 := c5b2; simp only [ByteArray.size_append] at c5b3)
 revert H
 refine itG_ fun c6 H => ?_
 have c6b0 := eq_true c6
 have c6b1 := decide_eq_true c6
 try have c6b2 : (9223372036854775807 < (a0 ++ (⟨#[47]⟩ : ByteArray)).size + a1.size) = False := eq_false (Nat.not_lt.2 c6)
 try (have c6b3 := c6b2; simp only [ByteArray.size_append] at c6b3)
 obtain rfl := Option.some.inj H
 go_enter Tryd.func43, Tryd.ntmps43
 go_wp2
 go_ret
 exact ⟨zagbkp, ziajdh⟩
section
open Go.Lib Go.Proofs.YtegggpipggniaaaDoor.Raw
def slices_Insert_impl_Znode_impl_Znode.f (l0 : List S32) (a1 : Int) (l2 : List S32) : Option (List S32) := if 0 ≤ a1 then (if a1 ≤ (l0.length : Int) then (if l2.length = 1 then (if l0.length < 1048576000 then (some (l0.take a1.toNat ++ l2 ++ l0.drop a1.toNat)) else none) else none) else none) else none
theorem slices_Insert_impl_Znode_impl_Znode.kM (w w1 : World) (base : Nat) (ok : Nat → Prop) (x : S32) (cs : List Value) (h : k32.K w x cs) : k32.M w1 base ok x cs := h
/-- there is room, and the place is ahead of the end -/
theorem slices_Insert_impl_Znode_impl_Znode.shift (g cap : Nat) (cur : Array Value) (l0 : List S32) (i : Nat) (vb : Nat) (voff c2 : Nat) (arr : Array Value) (tv : TypeId) (x : S32) (cx : List Value) (w : World) (hi : i < l0.length) (hroom : l0.length + 1 ≤ cap) (hcm : cap ≤ 9223372036854775807)
  (hg : w.heap[g]? = some (.cells cur 32 (0, 0))) (hcs : cur.size = cap * 5) (hv : w.heap[vb]? = some (.cells arr tv (0, 0))) (hne : vb ≠ g) (h1 : ∀ v ∈ cur.toList.take (l0.length * 5), v.oneCell' = true)
  (hcx : cx.length = 5) (hx1 : ∀ v ∈ cx, v.oneCell' = true) (hxc : ∀ j v, cx[j]? = some v → w.cell? ⟨vb, voff + j, none⟩ = some v) :
  Calls Tryd.prog 45 #[.slice (some ⟨g, 0, none⟩) l0.length cap, .int .i64 i, .slice (some ⟨vb, voff, none⟩) 1 c2] w fun e w' =>
   ∃ arr2 : Array Value, e = .returned (.slice (some ⟨g, 0, none⟩) (l0.length + 1) cap) ∧ w' = w.drew.setRow g arr2 ∧ arr2.size = cur.size ∧ arr2.toList.take ((l0.length + 1) * 5) = (cur.toList.take (l0.length * 5)).take (i * 5) ++ cx ++ (cur.toList.take (l0.length * 5)).drop (i * 5) := by
 have hov : ∀ o lb cb, (callFunc 70 #[.slice (some ⟨vb, voff, none⟩) 1 c2, .slice (some ⟨g, o, none⟩) lb cb]).run Tryd.prog w = .ok (.value (.bool false)) w := fun o lb cb => by
  rw [run_callFunc_extern Tryd.func70 (by kernel_rfl) (by kernel_rfl) (by kernel_rfl) (e := Extern.SlicesOverlaps.overlaps #[24, 24] #[4]) (by kernel_rfl),
   Lib.run_overlaps_apart w 24 4 32 Tryd.underlying24 5 Tryd.sizeOf32 ⟨vb, voff, none⟩ ⟨g, o, none⟩ 1 c2 lb cb hne tv 32 arr.size cur.size (by simp [World.shape?, hv]) (by simp [World.shape?, hg]) (by omega) (by simp [World.frozen?, hv]) (by simp [World.frozen?, hv])]
  rfl
 have hz2 : ¬ ((i : Int) = (l0.length : Int)) := by omega
 have hw1 : IntKind.i64.wrap ((i : Int) + 1) = (i : Int) + 1 := by rw [IntKind.wrap_i64]; omega
 have hb1 : (0 : Int) ≤ (i : Int) + 1 := by omega
 have hin : i ≤ l0.length := by omega
 have htn : ((i : Int) + 1).toNat = i + 1 := by omega
 have hb2 : ¬ (cap = i + 1) := by omega
 have hb3 : (i : Int) ≤ (l0.length : Int) + 1 := by omega
 have hb4 : ¬ (cap = i) := by omega
 have hLl : cur.toList.length = cap * 5 := by rw [Array.length_toList]; exact hcs
 have hfl : l0.length * 5 + 5 ≤ cur.toList.length := by rw [hLl]; omega
 have hsz : (Tryd.prog.info? 32).map (·.size) = some 5 := by kernel_rfl
 have ho1 : ∀ v ∈ (cur.toList.drop (i * 5)).take (l0.length * 5 - i * 5), v.oneCell' = true := fun v hv => h1 v (by
  rw [← List.drop_take] at hv
  exact List.mem_of_mem_drop hv)
 have hTl : ((cur.toList.drop (i * 5)).take (l0.length * 5 - i * 5)).length = (l0.length - i) * 5 := by rw [List.length_take, List.length_drop]; omega
 obtain ⟨TAIL, hTAIL⟩ : ∃ TAIL, TAIL = (cur.toList.drop (i * 5)).take (l0.length * 5 - i * 5) := ⟨_, rfl⟩
 have hcp1 : ∀ ty dc sc, (Builtin.copy_ #[24, 24] ty #[.slice (some ⟨g, (i + 1) * 5, none⟩) (l0.length - i) dc, .slice (some ⟨g, i * 5, none⟩) (l0.length + 1 - i) sc]).run Tryd.prog w.drew = _ := fun ty dc sc =>
  run_copy_wide w.drew 24 24 ty 32 g ((i + 1) * 5) (l0.length - i) dc ⟨g, i * 5, none⟩ (l0.length + 1 - i) sc 5 cur 32 TAIL Tryd.underlying24 hsz hg (by rw [hTAIL, hTl]; simp only [Nat.min_def]; split <;> omega)
   (fun j v hj => by
    rw [hTAIL, List.getElem?_take] at hj
    split at hj
    ·
     rw [List.getElem?_drop] at hj
     rw [Addr.add_lit, cell_row w.drew g cur 32 (0, 0) hg, ← Array.getElem?_toList]
     exact hj
    ·
     cases hj)
   (by rw [hTAIL, hTl, hcs]; omega) (by rw [hTAIL]; exact ho1)
 obtain ⟨L1, hL1⟩ : ∃ L1, L1 = cur.toList.take ((i + 1) * 5) ++ TAIL ++ cur.toList.drop ((i + 1) * 5 + TAIL.length) := ⟨_, rfl⟩
 have hs := shift_list cur.toList cx (i * 5) (l0.length * 5) 5 (by omega) hfl hcx
 rw [← hTAIL, show i * 5 + 5 = (i + 1) * 5 by omega, ← hL1] at hs
 obtain ⟨hs1, hs2, hs3⟩ := hs
 rw [← hL1] at hcp1
 obtain ⟨W1, hW1⟩ : ∃ W1, W1 = w.drew.setRow g L1.toArray := ⟨_, rfl⟩
 have hg1 : W1.heap[g]? = some (.cells L1.toArray 32 (0, 0)) := by rw [hW1]; exact row_of w.drew g cur _ 32 (0, 0) hg
 have hcp2 : ∀ ty dc, (Builtin.copy_ #[24, 24] ty #[.slice (some ⟨g, i * 5, none⟩) (l0.length + 1 - i) dc, .slice (some ⟨vb, voff, none⟩) 1 c2]).run Tryd.prog W1 = _ := fun ty dc =>
  run_copy_wide W1 24 24 ty 32 g (i * 5) (l0.length + 1 - i) dc ⟨vb, voff, none⟩ 1 c2 5 L1.toArray 32 cx Tryd.underlying24 hsz hg1 (by rw [hcx]; simp only [Nat.min_def]; split <;> omega)
   (fun j v hj => by
    rw [Addr.add_lit, World.cell?_of_block (w := w) (by rw [hW1]; exact other_of w.drew g vb _ hne)]
    exact hxc j v hj)
   (by rw [hcx, List.size_toArray, hs1]; omega) hx1
 rw [← hW1] at hcp1
 obtain ⟨L2, hL2⟩ : ∃ L2, L2 = L1.take (i * 5) ++ cx ++ L1.drop (i * 5 + cx.length) := ⟨_, rfl⟩
 rw [← hL2] at hs2 hs3 hcp2
 have AL2 := aa hL2
 have AW1 := aa hW1
 have AL1 := aa hL1
 have AT := aa hTAIL
 clear hW1 hL1 hTAIL hL2
 have mixed : Tryd.prog.follows .mixedOrders = true := by kernel_rfl
 go_enter Tryd.func45, Tryd.ntmps45
 go_wp2_with (simp only [hov])
 go_region_law_o (refine ev_copy_drawn rfl _ _ 24 24 rfl _ _ (by simp [Act.eval, Act.put]) (by simp [Act.eval, Act.put]) (hcp1 _ _ _) ?_)
 go_wp2_with (at_builtin; refine ev_copy rfl _ _ 24 24 rfl _ _ rfl rfl (hcp2 _ _) ?_)
 go_ret
 refine ⟨_, rfl, by rw [AW1.out, setRow_setRow], ?_, ?_⟩
 ·
  rw [List.size_toArray, hs2, Array.length_toList]
 rw [show (l0.length + 1) * 5 = l0.length * 5 + 5 by omega]
 show List.take (l0.length * 5 + 5) L2 = _
 rw [hs3, AT.out, List.take_take, Nat.min_eq_left (by omega), List.drop_take]
theorem heap_alloc_old (w : World) (o : Obj) (k : Nat) (h : k < w.heap.size) : (w.alloc o).heap[k]? = w.heap[k]? := by
 simp only [World.alloc]
 rw [Array.getElem?_push_lt h, Array.getElem?_eq_getElem h]
/-- no room, and the place is ahead of the end -/
theorem slices_Insert_impl_Znode_impl_Znode.grow (g cap : Nat) (cur : Array Value) (l0 : List S32) (i : Nat) (vb : Nat) (voff c2 : Nat) (x : S32) (cx : List Value) (w : World) (hi : i < l0.length) (hnc : l0.length ≤ cap) (hroom : cap < l0.length + 1) (hbig : l0.length < 1048576000)
  (hg : w.heap[g]? = some (.cells cur 32 (0, 0))) (hcs : cur.size = cap * 5) (h1 : ∀ v ∈ cur.toList.take (l0.length * 5), v.oneCell' = true)
  (hcx : cx.length = 5) (hx1 : ∀ v ∈ cx, v.oneCell' = true) (hxc : ∀ j v, cx[j]? = some v → w.cell? ⟨vb, voff + j, none⟩ = some v) :
  Calls Tryd.prog 45 #[.slice (some ⟨g, 0, none⟩) l0.length cap, .int .i64 i, .slice (some ⟨vb, voff, none⟩) 1 c2] w fun e w' =>
   ∃ (cap2 : Nat) (arr2 : Array Value), e = .returned (.slice (some ⟨w.heap.size, 0, none⟩) (l0.length + 1) cap2) ∧ l0.length + 1 ≤ cap2 ∧ cap2 ≤ maxLen ∧ w.grownBy w' none ∧ w'.heap[w.heap.size]? = some (.cells arr2 32 (0, 0)) ∧ arr2.size = cap2 * 5 ∧ arr2.toList.take ((l0.length + 1) * 5) = (cur.toList.take (l0.length * 5)).take (i * 5) ++ cx ++ (cur.toList.take (l0.length * 5)).drop (i * 5) := by
 obtain ⟨i0, hi0, hzz⟩ := Option.map_eq_some_iff.1 info32
 simp only [Prod.mk.injEq] at hzz
 obtain ⟨hz0, hzs, hzb⟩ := hzz
 have hgw : g < w.heap.size := (Array.getElem?_eq_some_iff.1 hg).1
 have hvw : vb < w.heap.size := World.block_lt_of_cell? w ⟨vb, voff + 0, none⟩ (hxc 0 _ (List.getElem?_eq_getElem (by omega)))
 have hLl : cur.toList.length = cap * 5 := by rw [Array.length_toList]; exact hcs
 have hsz : (Tryd.prog.info? 32).map (·.size) = some 5 := by kernel_rfl
 have ho1 : ∀ v ∈ (cur.toList.drop (i * 5)).take (l0.length * 5 - i * 5), v.oneCell' = true := fun v hv => h1 v (by
  rw [← List.drop_take] at hv
  exact List.mem_of_mem_drop hv)
 have hTl : ((cur.toList.drop (i * 5)).take (l0.length * 5 - i * 5)).length = (l0.length - i) * 5 := by rw [List.length_take, List.length_drop]; omega
 obtain ⟨TAIL, hTAIL⟩ : ∃ TAIL, TAIL = (cur.toList.drop (i * 5)).take (l0.length * 5 - i * 5) := ⟨_, rfl⟩
 rw [← hTAIL] at ho1 hTl
 have hTc : ∀ j v, TAIL[j]? = some v → w.cell? ⟨g, i * 5 + j, none⟩ = some v := fun j v hj => by
  rw [hTAIL, List.getElem?_take] at hj
  split at hj
  ·
   rw [List.getElem?_drop] at hj
   rw [cell_row w g cur 32 (0, 0) hg, ← Array.getElem?_toList]
   exact hj
  ·
   cases hj
 have hkk : (l0.length : Int) + 1 - (i : Int) = ((l0.length + 1 - i : Nat) : Int) := by omega
 have hik : i + (l0.length + 1 - i) = l0.length + 1 := by omega
 have hpl : (cur.toList.take (i * 5)).length = i * 5 := by rw [List.length_take]; omega
 have hold : (Builtin.firstCells i0.size i (.slice (some ⟨g, 0, none⟩) i cap)).run Tryd.prog w.drew = .ok (cur.toList.take (i * 5)).toArray w.drew := by
  rw [hzs]
  exact run_firstCells_some w.drew 5 i ⟨g, 0, none⟩ i cap (cur.toList.take (i * 5)) hpl (fun j v hj => by
   rw [Addr.add_lit, cell_row w.drew g cur 32 (0, 0) hg, ← Array.getElem?_toList, Nat.zero_add]
   rw [List.getElem?_take] at hj
   split at hj
   ·
    exact hj
   ·
    cases hj)
 obtain ⟨GC, hGC⟩ : ∃ GC, GC = grownCap w (l0.length + 1) cap 32 := ⟨_, rfl⟩
 obtain ⟨ROW, hROW⟩ : ∃ ROW : Array Value, ROW = (cur.toList.take (i * 5)).toArray ++ Builtin.zeroCells ((.agg #[(.string ⟨#[]⟩), (.int .i64 0), (.int .i64 0), (.int .i64 0), (.int .i64 0)]) : Value).cells (l0.length + 1 - i) ++ Builtin.zeroCells ((.agg #[(.string ⟨#[]⟩), (.int .i64 0), (.int .i64 0), (.int .i64 0), (.int .i64 0)]) : Value).cells (GC - (l0.length + 1)) := ⟨_, rfl⟩
 have hrz : ∀ ty, (Builtin.append_ #[24, 3] ty #[.slice (some ⟨g, 0, none⟩) i cap, .int .i64 ((l0.length : Int) + 1 - (i : Int))]).run Tryd.prog w = .ok (.slice (some ⟨w.heap.size, 0, none⟩) (l0.length + 1) GC) (w.drew.alloc (.cells ROW 32)) := fun ty => by
  have h := Lib.run_append_grow_zeros w 24 3 ty 32 i0 _ .i64 .i64 Tryd.underlying24 Tryd.underlying3 hi0 hz0 (some ⟨g, 0, none⟩) i cap (cur.toList.take (i * 5)) hold (l0.length + 1 - i) (by omega) (by omega) (by omega) (by omega) (by rw [hzb]; omega) (by rw [hzb, hik]; exact growslice_fits hroom (by omega))
  rw [hik, ← hGC, ← hROW] at h
  rw [hkk]
  exact h
 have hGn : l0.length + 1 ≤ GC := by rw [hGC]; exact grownCap_ge w _ _ _
 have hGm : GC ≤ maxLen := by rw [hGC]; exact grownCap_le_maxLen w _ _ _ (by unfold maxLen; omega)
 have hRs : ROW.size = GC * 5 := by
  rw [hROW]
  simp [Builtin.zeroCells, Value.cells]
  omega
 have hRl : ROW.toList.length = GC * 5 := (Array.length_toList (xs := ROW)).trans hRs
 have hRt : ROW.toList.take (i * 5) = cur.toList.take (i * 5) := by
  rw [hROW, Array.toList_append, Array.toList_append, List.append_assoc]
  exact List.take_left' hpl
 have hgl := grow_list ROW.toList (cur.toList.take (i * 5)) cx TAIL (i * 5) 5 ((l0.length - i) * 5) hRt hcx hTl (by rw [hRl]; omega)
 obtain ⟨L1, hL1⟩ : ∃ L1, L1 = ROW.toList.take (i * 5) ++ cx ++ ROW.toList.drop (i * 5 + cx.length) := ⟨_, rfl⟩
 rw [← hL1, show i * 5 + 5 = (i + 1) * 5 by omega] at hgl
 obtain ⟨hs1, hs2, hs3⟩ := hgl
 obtain ⟨L2, hL2⟩ : ∃ L2, L2 = L1.take ((i + 1) * 5) ++ TAIL ++ L1.drop ((i + 1) * 5 + TAIL.length) := ⟨_, rfl⟩
 rw [← hL2] at hs2 hs3
 obtain ⟨W1, hW1⟩ : ∃ W1, W1 = w.drew.alloc (.cells ROW 32) := ⟨_, rfl⟩
 rw [← hW1] at hrz
 have hg1 : W1.heap[w.heap.size]? = some (.cells ROW 32 (0, 0)) := by rw [hW1]; exact heap_alloc_new w.drew _
 have hold1 : ∀ k, k < w.heap.size → W1.heap[k]? = w.heap[k]? := fun k hk => by rw [hW1]; exact heap_alloc_old w.drew _ k hk
 have hsz1 : W1.heap.size = w.heap.size + 1 := by rw [hW1]; exact Array.size_push _
 have hcpA : ∀ (W : World), W.heap = W1.heap → ∀ ty dc, (Builtin.copy_ #[24, 24] ty #[.slice (some ⟨w.heap.size, i * 5, none⟩) (l0.length + 1 - i) dc, .slice (some ⟨vb, voff, none⟩) 1 c2]).run Tryd.prog W = .ok (goInt (Nat.min 1 (l0.length + 1 - i))) (W.setRow w.heap.size L1.toArray) := fun W hW ty dc => by
  rw [hL1]
  exact run_copy_wide W 24 24 ty 32 w.heap.size (i * 5) (l0.length + 1 - i) dc ⟨vb, voff, none⟩ 1 c2 5 ROW 32 cx Tryd.underlying24 hsz (by rw [hW]; exact hg1) (by rw [hcx]; simp only [Nat.min_def]; split <;> omega)
   (fun j v hj => by
    rw [Addr.add_lit, World.cell?_of_block (w := w) (by rw [hW]; exact hold1 vb hvw)]
    exact hxc j v hj)
   (by rw [hcx, hRs]; omega) hx1
 have hcpB : ∀ (W : World), W.heap = (W1.setRow w.heap.size L1.toArray).heap → ∀ ty dc sc, (Builtin.copy_ #[24, 24] ty #[.slice (some ⟨w.heap.size, (i + 1) * 5, none⟩) (l0.length - i) dc, .slice (some ⟨g, i * 5, none⟩) (l0.length - i) sc]).run Tryd.prog W = .ok (goInt (Nat.min (l0.length - i) (l0.length - i))) (W.setRow w.heap.size L2.toArray) := fun W hW ty dc sc => by
  rw [hL2]
  exact run_copy_wide W 24 24 ty 32 w.heap.size ((i + 1) * 5) (l0.length - i) dc ⟨g, i * 5, none⟩ (l0.length - i) sc 5 L1.toArray 32 TAIL Tryd.underlying24 hsz (by rw [hW]; exact row_of W1 _ ROW _ 32 (0, 0) hg1) (by rw [hTl]; simp only [Nat.min_def]; split <;> omega)
   (fun j v hj => by
    rw [Addr.add_lit, World.cell?_of_block (w := w) (by rw [hW, other_of W1 _ g _ (by omega)]; exact hold1 g hgw)]
    exact hTc j v hj)
   (by rw [hTl, List.size_toArray, hs1, hRl]; omega) ho1
 have hF : ((W1.setRow w.heap.size L1.toArray).drew).heap = (W1.setRow w.heap.size L1.toArray).heap := rfl
 have hb1 : (0 : Int) ≤ (i : Int) + 1 := by omega
 have hin : i ≤ l0.length := by omega
 have htn : ((i : Int) + 1).toNat = i + 1 := by omega
 have hw1 : IntKind.i64.wrap ((i : Int) + 1) = (i : Int) + 1 := by rw [IntKind.wrap_i64]; omega
 have hz2 : ¬ ((i : Int) = (l0.length : Int)) := by omega
 have hz3 : (cap : Int) < (l0.length : Int) + 1 := by omega
 have hGi : ¬ (GC = i) := by omega
 have hGim : ¬ (GC = i + 1) := by omega
 have hci : ¬ (cap = i) := by omega
 have hGi1 : i + 1 ≤ GC := by omega
 have hG63 : GC ≤ 9223372036854775807 := by unfold maxLen at hGm; omega
 have hb3 : (i : Int) ≤ (l0.length : Int) := by omega
 have AW1 := aa hW1
 have AL1 := aa hL1
 have AL2 := aa hL2
 have AT := aa hTAIL
 have AG := aa hGC
 have AR := aa hROW
 have Aold := aa hold1
 clear hW1 hL1 hL2 hTAIL hGC hROW hold1 hkk hik hold
 have mixed : Tryd.prog.follows .mixedOrders = true := by kernel_rfl
 go_enter Tryd.func45, Tryd.ntmps45
 go_wp2_with (first
  | (at_builtin; refine Lib.wpList_append_run _ rfl _ _ _ _ rfl _ _ rfl rfl _ _ (hrz _) ?_)
  | (at_builtin; refine ev_copy rfl _ _ 24 24 rfl _ _ rfl rfl (hcpA _ rfl _ _) ?_))
 go_region_law_o (refine ev_copy_drawn rfl _ _ 24 24 rfl _ _ (by simp [Act.eval, Act.put]) (by simp [Act.eval, Act.put]) (hcpB _ hF _ _ _) ?_)
 go_wp2
 go_ret
 refine ⟨GC, L2.toArray, rfl, hGn, hGm, ⟨?_, ?_, ?_, ?_, ?_⟩, ?_, ?_, ?_⟩
 ·
  exact (show W1.os = w.os by rw [AW1.out]; rfl)
 ·
  exact (show W1.tape = w.tape by rw [AW1.out]; rfl)
 ·
  exact (show W1.output = w.output by rw [AW1.out]; rfl)
 ·
  simp [size_of, hsz1]
 ·
  intro k hk _
  have hne : k ≠ w.heap.size := by omega
  rw [other_of _ _ _ _ hne]
  exact (other_of W1 _ k _ hne).trans (Aold.out k hk)
 ·
  exact row_of _ _ L1.toArray _ 32 (0, 0) (row_of W1 _ ROW _ 32 (0, 0) hg1)
 ·
  rw [List.size_toArray, hs2, hRl]
 show List.take ((l0.length + 1) * 5) L2 = _
 rw [show (l0.length + 1) * 5 = (i + 1) * 5 + (l0.length - i) * 5 by omega, hs3, AT.out, List.take_take, Nat.min_eq_left (by omega), List.drop_take]
/-- at the end -/
theorem slices_Insert_impl_Znode_impl_Znode.last (v0 : Value) (l0 : List S32) (A2 : Option Addr) (c2 : Nat) (l2 : List S32) (P0_ : Nat → Prop) (w0 w : World) (hbig : l0.length < 1048576000) (hl2 : l2.length = 1)
  (hB : Below w0.heap.size w0 w) (ho0 : Kd.R k32 32 w w0.heap.size P0_ v0 l0) (hr2 : Kd.C k32 w A2 l2.length l2) :
  Calls Tryd.prog 45 #[v0, .int .i64 l0.length, .slice A2 l2.length c2] w fun e w' =>
   ∃ v1 : Value, e = .returned v1 ∧ Kd.R k32 32 w' w0.heap.size (fun k => P0_ k ∨ w.heap.size ≤ k) v1 (l0 ++ l2) ∧ Below w0.heap.size w0 w' ∧ w.grownBy w' v0.ownBlock := by
 obtain ⟨A, c, rfl⟩ := Kd.R_slice ho0
 have HO := aa (Kd.R_mono (ok' := fun k => P0_ k ∨ w.heap.size ≤ k) ho0 (fun k hk => .inl hk))
 have HB := aa hB
 have HC := aa hr2
 have hlc : l0.length ≤ c := by
  obtain ⟨A', c', he, h, _⟩ := Kd.R_reads ho0
  injection he with _ _ he
  subst he
  exact h
 have hW0 := aa hB.size
 rw [hl2]
 rw [hl2] at HC
 clear hB ho0 hr2
 cases A with
 | none =>
  have h0 : l0.length = 0 := by
   obtain ⟨A', c', he, _, hr⟩ := Kd.R_reads HO.out
   injection he with he
   subst he
   rcases Nat.eq_zero_or_pos l0.length with h | h
   ·
    exact h
   ·
    obtain ⟨ad, he, _⟩ := hr.2.2 h
    cases he
  go_enter Tryd.func45, Tryd.ntmps45
  go_wp2_with (((with_reducible refine gate_builtin (b := .append) (xs := #[.tmp 23, .tmp 24]) rfl ?_); at_builtin; refine Kd.R_append_rows k32 (w0 := w0) w0.heap.size rfl (.tmp 23) (.tmp 24) 24 32 (.agg #[(.string ⟨#[]⟩), (.int .i64 0), (.int .i64 0), (.int .i64 0), (.int .i64 0)]) 48 rfl Tryd.underlying24 info32 rfl (by decide) (by omega) (.slice none l0.length c) l0 l2 _ _ _ (fun k => P0_ k ∨ w.heap.size ≤ k) (fun _ => False) rfl rfl HO.out HC.out (fun _ _ h => h) (fun _ h => h.elim) (fun k hk => .inr hk) HB.out hW0.out (by omega) ?_; intro v105 w5 ho hb hg hat))
  go_ret
  exact ⟨_, rfl, ho, hb, hg⟩
 | some ad =>
  obtain ⟨ab, ao, asp⟩ := ad
  go_enter Tryd.func45, Tryd.ntmps45
  go_wp2_with (((with_reducible refine gate_builtin (b := .append) (xs := #[.tmp 23, .tmp 24]) rfl ?_); at_builtin; refine Kd.R_append_rows k32 (w0 := w0) w0.heap.size rfl (.tmp 23) (.tmp 24) 24 32 (.agg #[(.string ⟨#[]⟩), (.int .i64 0), (.int .i64 0), (.int .i64 0), (.int .i64 0)]) 48 rfl Tryd.underlying24 info32 rfl (by decide) (by omega) (.slice (some ⟨ab, ao, asp⟩) l0.length c) l0 l2 _ _ _ (fun k => P0_ k ∨ w.heap.size ≤ k) (fun _ => False) rfl rfl HO.out HC.out (fun _ _ h => h) (fun _ h => h.elim) (fun k hk => .inr hk) HB.out hW0.out (by omega) ?_; intro v105 w5 ho hb hg hat))
  all_goals (go_ret; exact ⟨_, rfl, ho, hb, hg⟩)
theorem slices_Insert_impl_Znode_impl_Znode.calls (P0_ : Nat → Prop) (u9000_ : Value) (l0 : List S32) (a1 : Int) (A2 : Option Addr) (c2 : Nat) (l2 : List S32) (r : List S32) (w0 w : World) (hB : Below w0.heap.size w0 w) (ho0 : Kd.R k32 32 w w0.heap.size P0_ u9000_ l0) (hr2 : ∀ W_, Kept w W_ (fun k_ => P0_ k_) → Kd.C k32 W_ A2 l2.length l2) (hc2 : l2.length ≤ c2) (hx2 : ∀ ad, A2 = some ad → ∃ g o arr t, ad = ⟨g, o, none⟩ ∧ w.heap[g]? = some (.cells arr t (0, 0))) (h : slices_Insert_impl_Znode_impl_Znode.f l0 a1 l2 = some r) :
  Calls Tryd.prog 45 #[u9000_, .int .i64 a1, .slice A2 l2.length c2] w fun e w' => ∃ v0_ : Value, e = .returned (v0_) ∧ Kd.R k32 32 w' w0.heap.size (fun k_ => (P0_ k_ ∨ w.heap.size ≤ k_)) v0_ r ∧ Below w0.heap.size w0 w' ∧ Kept w w' (fun k_ => P0_ k_) := by
 unfold slices_Insert_impl_Znode_impl_Znode.f at h
 have q0 : 0 ≤ a1 := Decidable.byContradiction fun c => by rw [if_neg c] at h; cases h
 rw [if_pos q0] at h
 have q1 : a1 ≤ (l0.length : Int) := Decidable.byContradiction fun c => by rw [if_neg c] at h; cases h
 rw [if_pos q1] at h
 have q2 : l2.length = 1 := Decidable.byContradiction fun c => by rw [if_neg c] at h; cases h
 rw [if_pos q2] at h
 have q3 : l0.length < 1048576000 := Decidable.byContradiction fun c => by rw [if_neg c] at h; cases h
 rw [if_pos q3] at h
 obtain rfl := Option.some.inj h
 clear h
 obtain ⟨i, rfl⟩ := Int.eq_ofNat_of_zero_le q0
 rw [Int.toNat_natCast]
 have hok : ∀ k, u9000_.ownBlock = some k → P0_ k := ho0.1
 have hC := hr2 w (Kept.refl _ _)
 rcases Nat.lt_or_ge i l0.length with hi | hi
 ·
  obtain ⟨x, rfl⟩ := List.length_eq_one_iff.1 q2
  obtain ⟨ad, rfl, hcx⟩ := hC.2.2 (by simp)
  obtain ⟨cx, hcl, hcK, hcc⟩ := hcx 0 x rfl
  obtain ⟨vb, voff, arr, tv, rfl, hv⟩ := hx2 ad rfl
  have hcl' : cx.length = 5 := hcl
  have hxc : ∀ j v, cx[j]? = some v → w.cell? ⟨vb, voff + j, none⟩ = some v := fun j v hj => by
   have := hcc j v hj
   rwa [Nat.zero_mul, Nat.zero_add, Addr.add_lit] at this
  have hx1 : ∀ v ∈ cx, v.oneCell' = true := k32.K_one hcK
  obtain ⟨h0, inner, hown, hrp⟩ := ho0
  have hrK := reps_K hrp
  rcases hown with ⟨hil, ⟨rfl, hn⟩ | ⟨g, cap, cur, rfl, hbg, hg, hnc, hcm, hcs, hti⟩⟩
  ·
   omega
  have hcs' : cur.size = cap * 5 := hcs
  have hti' : cur.toList.take (l0.length * 5) = inner := hti
  have hil' : inner.length = l0.length * 5 := hil
  have hPg : P0_ g := hok g rfl
  have h1 : ∀ v ∈ cur.toList.take (l0.length * 5), v.oneCell' = true := by
   rw [hti']
   intro v hv
   obtain ⟨j, hj, rfl⟩ := List.getElem_of_mem hv
   have hjl : j / 5 < l0.length := by omega
   have hK := k32.K_one (hrK.2 (j / 5) _ (List.getElem?_eq_getElem hjl))
   refine hK _ (List.mem_iff_getElem?.2 ⟨j % 5, ?_⟩)
   have e5 : k32.sz = 5 := rfl
   rw [e5, List.getElem?_take, if_pos (Nat.mod_lt _ (by omega)), List.getElem?_drop, show j / 5 * 5 + j % 5 = j by omega]
   exact List.getElem?_eq_getElem hj
  have hput := reps_put hrK hcK i (Nat.le_of_lt hi)
  have e5 : i * k32.sz = i * 5 := rfl
  rw [e5] at hput
  have hpl : (l0.take i ++ [x] ++ l0.drop i).length = l0.length + 1 := by
   rw [List.length_append, List.length_append, List.length_take, List.length_drop, List.length_singleton]
   omega
  have hil2 : (inner.take (i * 5) ++ cx ++ inner.drop (i * 5)).length = (l0.length + 1) * 5 := by
   rw [List.length_append, List.length_append, List.length_take, List.length_drop, hcl', hil']
   omega
  have hne : vb ≠ g := by
   rintro rfl
   have hK : Kept w (w.setRow vb #[]) (fun k_ => P0_ k_) := ⟨by rw [size_of]; exact Nat.le_refl _, fun k _ hk => other_of w vb k _ (fun e => hk (by rw [e]; exact hPg))⟩
   obtain ⟨ad', he, hcx'⟩ := (hr2 _ hK).2.2 (by simp)
   injection he with he
   subst he
   obtain ⟨c', hl', _, hc'⟩ := hcx' 0 x rfl
   have hl5 : c'.length = 5 := hl'
   have := hc' 0 _ (List.getElem?_eq_getElem (by omega))
   rw [Nat.zero_mul, Nat.zero_add, Addr.add_lit, cell_row _ vb #[] tv (0, 0) (row_of w vb arr #[] tv (0, 0) hv)] at this
   simp at this
  rcases Nat.lt_or_ge cap (l0.length + 1) with hroom | hroom
  ·
   refine (slices_Insert_impl_Znode_impl_Znode.grow g cap cur l0 i vb voff c2 x cx w hi hnc hroom q3 hg hcs' h1 hcl' hx1 hxc).mono ?_
   rintro e w' ⟨cap2, arr2, rfl, hc1, hc2', hgr, hg2, hs2, ht2⟩
   have ho : w'.ownsRow w0.heap.size 32 5 (.slice (some ⟨w.heap.size, 0, none⟩) (l0.length + 1) cap2) (l0.take i ++ [x] ++ l0.drop i).length (inner.take (i * 5) ++ cx ++ inner.drop (i * 5)) := by
    rw [hpl]
    exact ⟨hil2, .inr ⟨_, cap2, arr2, rfl, hB.size, hg2, hc1, hc2', hs2, by rw [ht2, hti']⟩⟩
   refine ⟨_, rfl, R_flat k32 slices_Insert_impl_Znode_impl_Znode.kM (fun k hk => ?_) ho hput, pw_below_grown hB none hB.size hgr (fun k hk => by cases hk), Kept.of_grown hgr (Kept.refl _ _) (fun k hk => by cases hk)⟩
   have : w.heap.size = k := by simpa [Value.ownBlock] using hk
   exact .inr (by omega)
  refine (slices_Insert_impl_Znode_impl_Znode.shift g cap cur l0 i vb voff c2 arr tv x cx w hi hroom (by unfold maxLen at hcm; omega) hg hcs' hv hne h1 hcl' hx1 hxc).mono ?_
  rintro e w' ⟨arr2, rfl, rfl, hs2, ht2⟩
  have hgr : w.grownBy (w.drew.setRow g arr2) (some g) := let z := grown_row w.drew g arr2; ⟨z.os, z.tape, z.output, z.size, z.block⟩
  have ho : (w.drew.setRow g arr2).ownsRow w0.heap.size 32 5 (.slice (some ⟨g, 0, none⟩) (l0.length + 1) cap) (l0.take i ++ [x] ++ l0.drop i).length (inner.take (i * 5) ++ cx ++ inner.drop (i * 5)) := by
   rw [hpl]
   exact ⟨hil2, .inr ⟨g, cap, arr2, rfl, hbg, row_of w.drew g cur arr2 32 (0, 0) hg, hroom, hcm, by rw [hs2]; exact hcs', by rw [ht2, hti']⟩⟩
  refine ⟨_, rfl, R_flat k32 slices_Insert_impl_Znode_impl_Znode.kM (fun k hk => ?_) ho hput, pw_below_grown hB (some g) hB.size hgr (fun k hk => by injection hk with hk; omega), Kept.of_grown hgr (Kept.refl _ _) (fun k hk => .inl (by injection hk with hk; rw [← hk]; exact hPg))⟩
  have : g = k := by simpa [Value.ownBlock] using hk
  exact .inl (this ▸ hPg)
 have e : i = l0.length := by omega
 subst e
 rw [List.take_length, List.drop_length, List.append_nil]
 refine (slices_Insert_impl_Znode_impl_Znode.last u9000_ l0 A2 c2 l2 P0_ w0 w q3 q2 hB ho0 hC).mono ?_
 rintro e w' ⟨v1, rfl, ho, hb, hg⟩
 exact ⟨v1, rfl, ho, hb, Kept.of_grown hg (Kept.refl _ _) (fun k hk => .inl (hok k hk))⟩
end
mutual
def impl_CreateZ.j0 : Nat → List (S32) → ByteArray → Int → Int → Bool → Bool → Option (Int × ByteArray × (List (S32)))
 | 0, _, _, _, _, _, _ => none
 | k + 1, x0, x1, x2, x3, x4, x28 => if x28 = true then (some (3, (⟨#[]⟩ : ByteArray), ([] : List (S32)))) else (if x1.toList = ([47] : List UInt8) then (some (1, (⟨#[]⟩ : ByteArray), ([] : List (S32)))) else ((impl_parted.f k x1).bind fun bt105 => ((impl_find.f k x0 bt105.1).bind fun bt107 => (if bt107.2 = true then (if 0 ≤ bt107.1 then (if bt107.1 < (x0.length : Int) then (if ((rd_T32 x0 bt107.1).f3) = 0 then ((slices_Clone_impl_Znode_impl_Znode.f x0).bind fun t110 => (if x4 = true then (if bt107.1 < (t110.length : Int) then (if ((rd_T32 t110 bt107.1).f4) = 100 then (some (3, (⟨#[]⟩ : ByteArray), ([] : List (S32)))) else ((impl_SeqName.f k bt105.2 ((rd_T32 t110 bt107.1).f4)).bind fun bt115 => (if bt115.1 = 0 then ((impl_joined.f bt105.1 bt115.2).bind fun t118 => ((impl_PathFault.f k t118).bind fun t119 => (if t119 = 0 then (impl_CreateZ.j1 k t118 x2 x3 (t110.set (bt107.1 : Int).toNat (⟨(rd_T32 t110 bt107.1).f0, (rd_T32 t110 bt107.1).f1, (rd_T32 t110 bt107.1).f2, (rd_T32 t110 bt107.1).f3, wrap64 (((rd_T32 t110 bt107.1).f4) + 1)⟩ : S32))) else (some (t119, (⟨#[]⟩ : ByteArray), ([] : List (S32))))))) else (some (bt115.1, (⟨#[]⟩ : ByteArray), ([] : List (S32))))))) else (none)) else (impl_CreateZ.j1 k x1 x2 x3 t110))) else (some (8, (⟨#[]⟩ : ByteArray), ([] : List (S32))))) else (none)) else (none)) else (some (4, (⟨#[]⟩ : ByteArray), ([] : List (S32))))))))
def impl_CreateZ.j1 : Nat → ByteArray → Int → Int → List (S32) → Option (Int × ByteArray × (List (S32)))
 | 0, _, _, _, _ => none
 | k + 1, x1, x2, x3, x16 => (impl_find.f k x16 x1).bind fun bt122 => (if bt122.2 = true then (some (6, (⟨#[]⟩ : ByteArray), ([] : List (S32)))) else (if (x16.length : Int) = 20 then (some (2, (⟨#[]⟩ : ByteArray), ([] : List (S32)))) else ((slices_Insert_impl_Znode_impl_Znode.f x16 bt122.1 (([(⟨x1, x2, 0, x3, 0⟩ : S32)] : List (S32)))).bind fun t127 => (some (0, x1, t127)))))
end
def impl_CreateZ.f (k : Nat) (l0 : List (S32)) (a1 : ByteArray) (a2 : Int) (a3 : Int) (a4 : Bool) : Option (Int × ByteArray × (List (S32))) := (impl_zCode.f k l0 a1).bind fun t102 => (if t102 = 0 then ((impl_isData.f a2).bind fun t103 => (if t103 = true then ((impl_isOwner.f a3).bind fun t104 => (impl_CreateZ.j0 k l0 a1 a2 a3 a4 (!t104))) else (impl_CreateZ.j0 k l0 a1 a2 a3 a4 true))) else (some (t102, (⟨#[]⟩ : ByteArray), ([] : List (S32)))))
theorem impl_CreateZ.mono_l : ∀ k, (∀ y0 y1 y2 y3 y4 y5, LeO (impl_CreateZ.j0 k y0 y1 y2 y3 y4 y5) (impl_CreateZ.j0 (k + 1) y0 y1 y2 y3 y4 y5)) ∧ (∀ y0 y1 y2 y3, LeO (impl_CreateZ.j1 k y0 y1 y2 y3) (impl_CreateZ.j1 (k + 1) y0 y1 y2 y3))
 | 0 => ⟨fun _ _ _ _ _ _ r h => by simp [impl_CreateZ.j0] at h, fun _ _ _ _ r h => by simp [impl_CreateZ.j1] at h⟩
 | k + 1 => by
  obtain ⟨ih0, ih1⟩ := impl_CreateZ.mono_l k
  refine ⟨?_, ?_⟩
  ·
   intro y0 y1 y2 y3 y4 y5
   unfold impl_CreateZ.j0
   with_reducible repeat' first | exact ih0 _ _ _ _ _ _ | exact ih1 _ _ _ _ | exact impl_PathFault.mono _ _ | exact impl_SeqName.mono _ _ _ | exact impl_find.mono _ _ _ | exact impl_parted.mono _ _ | exact impl_zCode.mono _ _ _ | exact LeO.refl _ | exact LeO.none _ | refine LeO.ite ?_ ?_ | refine LeO.bind ?_ (fun _ => ?_)
  ·
   intro y0 y1 y2 y3
   unfold impl_CreateZ.j1
   with_reducible repeat' first | exact ih0 _ _ _ _ _ _ | exact ih1 _ _ _ _ | exact impl_PathFault.mono _ _ | exact impl_SeqName.mono _ _ _ | exact impl_find.mono _ _ _ | exact impl_parted.mono _ _ | exact impl_zCode.mono _ _ _ | exact LeO.refl _ | exact LeO.none _ | refine LeO.ite ?_ ?_ | refine LeO.bind ?_ (fun _ => ?_)
theorem impl_CreateZ.mono : ∀ a0 a1 a2 a3 a4 k, LeO (impl_CreateZ.f k a0 a1 a2 a3 a4) (impl_CreateZ.f (k + 1) a0 a1 a2 a3 a4) := by
 intro a0 a1 a2 a3 a4 k
 obtain ⟨ih0, ih1⟩ := impl_CreateZ.mono_l k
 unfold impl_CreateZ.f
 with_reducible repeat' first | exact ih0 _ _ _ _ _ _ | exact ih1 _ _ _ _ | exact impl_PathFault.mono _ _ | exact impl_SeqName.mono _ _ _ | exact impl_find.mono _ _ _ | exact impl_parted.mono _ _ | exact impl_zCode.mono _ _ _ | exact LeO.refl _ | exact LeO.none _ | refine LeO.ite ?_ ?_ | refine LeO.bind ?_ (fun _ => ?_)
theorem impl_CreateZ.calls (k : Nat) (A0 : Option Addr) (c0 : Nat) (l0 : List (S32)) (a1 : ByteArray) (a2 : Int) (a3 : Int) (a4 : Bool) (r1 : Int) (r2 : ByteArray) (r3 : List (S32)) (w : World) (hr0 : Kd.C k32 w A0 l0.length l0) (hc0 : l0.length ≤ c0) (h : impl_CreateZ.f k l0 a1 a2 a3 a4 = some (r1, r2, r3)) :
  Calls Tryd.prog 16 #[.slice A0 l0.length c0, .string a1, .int .i64 a2, .int .i64 a3, .bool a4] w fun e w' => ∃ v2_ : Value, e = .returned (.agg #[.int .i64 r1, .string r2, v2_]) ∧ Kd.R k32 32 w' w.heap.size (fun _ => True) v2_ r3 ∧ Below w.heap.size w w' := by
 have hu28 := Tryd.underlying28
 have hu46 := Tryd.underlying46
 have hu32 := Tryd.underlying32
 have HR0 := aa hr0
 have HC0 := aa hc0
 clear hr0 hc0
 have HB := aa (Below.refl w.heap.size w)
 have H : ((impl_zCode.f k l0 a1).bind fun t102 => (if t102 = 0 then ((impl_isData.f a2).bind fun t103 => (if t103 = true then ((impl_isOwner.f a3).bind fun t104 => (impl_CreateZ.j0 k l0 a1 a2 a3 a4 (!t104))) else (impl_CreateZ.j0 k l0 a1 a2 a3 a4 true))) else (some (t102, (⟨#[]⟩ : ByteArray), ([] : List (S32)))))) = some (r1, r2, r3) := h
 clear h
 revert H
 refine obs_ fun t102 A6 H => ?_
 revert H
 refine itE_ (fun c7b0 c7b1 H => ?_) fun c7b0 c7b1 H => ?_
 ·
  have HC8 := aa H
  clear H
  go_enter Tryd.func16, Tryd.ntmps16
  go_upto_region 4 with (first | (refine be_ 10 #[.int .i64 0, .string (⟨#[]⟩ : ByteArray), .slice none 0 0] 28 ?_; intro gb101 hg w9 hbox hb; have n0_ := aa (below_step zjjbob hb); have n1_ := aa (hbox); have n2_ := aa ((zkpfjp : w.heap.size ≤ gb101)); have n3_ := aa ((zkpfjp : w.heap.size ≤ gb101)); clear HB; have HB := n0_; have BK101 := n1_; have GW101 := n2_; have GE101 := n3_; clear n0_ n1_ n2_ n3_; clear hb hbox hg) | (refine gc_ Tryd.func28 (some 23) #[.slice A0 l0.length c0, .string a1] ?_; (with_reducible refine (impl_zCode.calls k _ _ l0 a1 t102 _ zfmbgg HC0.out A6.out).mono ?_); rintro e w10 ⟨rfl, hb⟩; refine ⟨_, rfl, ?_⟩; replace BK101 := aa (bb_ BK101.out hb); replace HB := aa (below_step zkmbdh hb); (try clear hb hk hi)))
  (try simp only [Act.put, List.setIfInBounds_toArray, List.set_cons_zero, List.set_cons_succ])
  go_cut [28] (fun v28 wc => ∃ (kq : Nat) (x28_7 : Bool), v28 = .bool x28_7 ∧ Aside0 (impl_CreateZ.j0 kq l0 a1 a2 a3 a4 x28_7 = some (r1, r2, r3)) ∧ Aside0 (kq ≤ k) ∧ Aside0 (wc.heap[gb101]? = some (.cells #[.int .i64 0, .string (⟨#[]⟩ : ByteArray), (.slice none 0 0)] 28 (0, 0))) ∧ Aside0 (Below w.heap.size w wc))
  case first =>
   have H := HC8.out
   clear HC8
   revert H
   refine obs_ fun t103 A11 H => ?_
   by_cases c12 : t103 = true
   ·
    subst c12
    rw [if_pos rfl] at H
    revert H
    refine obs_ fun t104 A13 H => ?_
    have H' := aa H
    clear H
    go_wp2_with (first | (refine gc_ Tryd.func30 (some 30) #[.int .i64 a2] ?_; (with_reducible refine (impl_isData.calls a2 true _ A11.out).mono ?_); rintro e w' ⟨rfl, ⟨nd, rfl⟩⟩; refine ⟨_, rfl, ?_⟩) | (go_at_call 42; (with_reducible refine (impl_isOwner.calls a3 t104 _ A13.out).mono ?_); rintro e w' ⟨rfl, ⟨nd, rfl⟩⟩))
    go_meet
    case rel => exact ⟨_, (!t104), zagbkp, H', ⟨zpacfg⟩, ⟨zkjhpm BK101.out⟩, ⟨zkmbdh⟩⟩
   replace c12 := Bool.eq_false_iff.mpr c12
   subst c12
   rw [if_neg fT_] at H
   have H' := aa H
   clear H
   go_wp2_with (first | (refine gc_ Tryd.func30 (some 30) #[.int .i64 a2] ?_; (with_reducible refine (impl_isData.calls a2 false _ A11.out).mono ?_); rintro e w' ⟨rfl, ⟨nd, rfl⟩⟩; refine ⟨_, rfl, ?_⟩))
   go_meet
   case rel => exact ⟨_, (true), zagbkp, H', ⟨zpacfg⟩, ⟨zkjhpm BK101.out⟩, ⟨zkmbdh⟩⟩
  case rest =>
   clear HC8
   try clear p2
   try clear c7b0
   try clear c7b1
   try clear c12
   obtain ⟨kq, x28_7, rfl, HA, HJ7, BK101, HB⟩ := hcut
   cases kq with
   | zero => exact absurd HA.out (by simp [impl_CreateZ.j0])
   | succ kj7 =>
    have H := HA.out
    clear HA
    simp only [impl_CreateZ.j0] at H
    by_cases c14 : x28_7 = true
    ·
     subst c14
     rw [if_pos rfl] at H
     simp only [Option.some.injEq, Prod.mk.injEq] at H
     obtain ⟨rfl, rfl, rfl⟩ := H
     obtain ⟨hcz15_0, hcz15_1, hcz15_2, hfz15_0, hfz15_1, hfz15_2⟩ := blk3_ BK101.out
     go_wp2
     refine bodyPost_ret (results_cell_row rfl _ _ gb101 28 #[.int .i64 3, .string (⟨#[]⟩ : ByteArray), .slice none 0 0] (0, 0) _ rfl zdnlbm Tryd.underlying28 rfl (by kernel_rfl)) rfl ?_
     exact ⟨_, zlhpib, zhijhk, zkmbdh⟩
    ·
     replace c14 := Bool.eq_false_iff.mpr c14
     subst c14
     rw [if_neg fT_] at H
     revert H
     refine itE_ (fun c16b0 c16b1 H => ?_) fun c16b0 c16b1 H => ?_
     ·
      simp only [Option.some.injEq, Prod.mk.injEq] at H
      obtain ⟨rfl, rfl, rfl⟩ := H
      obtain ⟨hcz17_0, hcz17_1, hcz17_2, hfz17_0, hfz17_1, hfz17_2⟩ := blk3_ BK101.out
      go_wp2
      refine bodyPost_ret (results_cell_row rfl _ _ gb101 28 #[.int .i64 1, .string (⟨#[]⟩ : ByteArray), .slice none 0 0] (0, 0) _ rfl zapacm Tryd.underlying28 rfl (by kernel_rfl)) rfl ?_
      exact ⟨_, zlhpib, zhijhk, zkmbdh⟩
     revert H
     refine ob2_ fun t105 t106 A18 H => ?_
     (try dsimp only at H)
     revert H
     refine ob2_ fun t107 t108 A19 H => ?_
     (try dsimp only at H)
     by_cases c20 : t108 = true
     ·
      subst c20
      rw [if_pos rfl] at H
      revert H
      refine itH_ fun c21b0 H => ?_
      revert H
      refine itH_ fun c22b0 H => ?_
      revert H
      refine itE_ (fun c23b0 c23b1 H => ?_) fun c23b0 c23b1 H => ?_
      ·
       revert H
       refine obs_ fun t110 A24 H => ?_
       have HC25 := aa H
       clear H
       go_upto_if 67 with (first | (refine gc_ Tryd.func37 (some 44) #[.string a1] ?_; (with_reducible refine (impl_parted.calls kj7 a1 t105 t106 _ A18.out).mono ?_); rintro e w26 ⟨rfl, hb⟩; refine ⟨_, rfl, ?_⟩; replace BK101 := aa (bb_ BK101.out hb); replace HB := aa (below_step zkmbdh hb); (try clear hb hk hi)) | (refine gc_ Tryd.func29 (some 50) #[.slice A0 l0.length c0, .string t105] ?_; (with_reducible refine (impl_find.calls kj7 _ _ l0 t105 t107 true _ zfmbgg HC0.out A19.out).mono ?_); rintro e w27 ⟨rfl, hb⟩; refine ⟨_, rfl, ?_⟩; replace BK101 := aa (bb_ BK101.out hb); replace HB := aa (below_step zkmbdh hb); (try clear hb hk hi); have p109 : 0 ≤ (t107 : Int) := of_decide_eq_true zgglam; have q109 : t107 < (l0.length : Int) := of_decide_eq_true zgglam; obtain ⟨ad109, e109, hx109_0, hx109_1, hx109_2, hx109_3, hx109_4⟩ := at_T32 HR0.out t107 p109 q109; cases e109; replace hx109_0 := pb HB.out hx109_0; replace hx109_1 := pb HB.out hx109_1; replace hx109_2 := pb HB.out hx109_2; replace hx109_3 := pb HB.out hx109_3; replace hx109_4 := pb HB.out hx109_4; replace p109 := eq_true p109; replace q109 := eq_true q109) | (refine gc_ Tryd.func32 (some 66) #[.slice (some ad109) l0.length c0] ?_; (with_reducible refine (slices_Clone_impl_Znode_impl_Znode.calls _ _ l0 t110 _ zfmbgg HC0.out A24.out).mono ?_); rintro e w28 ⟨v111, rfl, ho0, hb⟩; refine ⟨_, rfl, ?_⟩; have HO112 := aa (Kd.R_lower ho0 (below_size zkmbdh)); replace BK101 := aa (bb_ BK101.out hb); replace HB := aa (below_step zkmbdh hb); (try clear hb hk hi ho0)))
       (try simp only [Act.put, List.setIfInBounds_toArray, List.set_cons_zero, List.set_cons_succ])
       go_cut [1] (fun v1 wc => ∃ (kq : Nat) (x1_24 : ByteArray) (x16_24 : List (S32)) (x102000_24 : Int) (x102001_24 : ByteArray), v1 = .string x1_24 ∧ Aside0 (impl_CreateZ.j1 kq x1_24 a2 a3 x16_24 = some (r1, r2, r3)) ∧ Aside0 (kq ≤ kj7) ∧ Aside0 (Kd.R k32 32 wc w.heap.size (fun _ => True) v111 x16_24) ∧ Aside0 (wc.heap[gb101]? = some (.cells #[.int .i64 x102000_24, .string x102001_24, (.slice none 0 0)] 28 (0, 0))) ∧ Aside0 (Below w.heap.size w wc))
       case first =>
        have H := HC25.out
        clear HC25
        by_cases c29 : a4 = true
        ·
         subst c29
         rw [if_pos rfl] at H
         revert H
         refine itH_ fun c30b0 H => ?_
         (first | rw [c30b0] | (simp only [i64_w, i32_w]; rw [c30b0]) | (simp only [c30b2, Bool.not_false, Bool.not_true]) | skip)
         revert H
         refine itE_ (fun c31b0 c31b1 H => ?_) fun c31b0 c31b1 H => ?_
         ·
          simp only [Option.some.injEq, Prod.mk.injEq] at H
          obtain ⟨rfl, rfl, rfl⟩ := H
          obtain ⟨Ao32, co32, eo32⟩ := Kd.R_slice HO112.out
          subst eo32
          have p113 : 0 ≤ (t107 : Int) := of_decide_eq_true zgglam
          have q113 : t107 < (t110.length : Int) := of_decide_eq_true zgglam
          obtain ⟨ad113, e113, hx113_0, hx113_1, hx113_2, hx113_3, hx113_4⟩ := at_T32 (Kd.R_reads' HO112.out).2.2 t107 p113 q113
          cases e113
          replace p113 := eq_true p113
          replace q113 := eq_true q113
          obtain ⟨hcz33_0, hcz33_1, hcz33_2, hfz33_0, hfz33_1, hfz33_2⟩ := blk3_ BK101.out
          go_wp2
          refine bodyPost_ret (results_cell_row rfl _ _ gb101 28 #[.int .i64 3, .string (⟨#[]⟩ : ByteArray), .slice none 0 0] (0, 0) _ rfl zdnlbm Tryd.underlying28 rfl (by kernel_rfl)) rfl ?_
          exact ⟨_, zlhpib, zhijhk, zkmbdh⟩
         revert H
         refine ob2_ fun t115 t116 A34 H => ?_
         (try dsimp only at H)
         revert H
         refine itE_ (fun c35b0 c35b1 H => ?_) fun c35b0 c35b1 H => ?_
         ·
          revert H
          refine obs_ fun t118 A36 H => ?_
          revert H
          refine obs_ fun t119 A37 H => ?_
          revert H
          refine itE_ (fun c38b0 c38b1 H => ?_) fun c38b0 c38b1 H => ?_
          ·
           obtain ⟨y121, hy121⟩ : ∃ y_ : List (S32), y_ = (t110.set (t107 : Int).toNat (⟨(rd_T32 t110 t107).f0, (rd_T32 t110 t107).f1, (rd_T32 t110 t107).f2, (rd_T32 t110 t107).f3, wrap64 (((rd_T32 t110 t107).f4) + 1)⟩ : S32)) := ⟨_, rfl⟩
           replace H : (impl_CreateZ.j1 kj7 t118 a2 a3 y121) = some (r1, r2, r3) := by cases hy121; exact H
           have Ny121 := aa hy121
           clear hy121
           have H' := aa H
           clear H
           obtain ⟨Ao40, co40, eo40⟩ := Kd.R_slice HO112.out
           subst eo40
           have p113 : 0 ≤ (t107 : Int) := of_decide_eq_true zgglam
           have q113 : t107 < (t110.length : Int) := of_decide_eq_true zgglam
           obtain ⟨ad113, e113, hx113_0, hx113_1, hx113_2, hx113_3, hx113_4⟩ := at_T32 (Kd.R_reads' HO112.out).2.2 t107 p113 q113
           cases e113
           replace p113 := eq_true p113
           replace q113 := eq_true q113
           have p114 : 0 ≤ (t107 : Int) := of_decide_eq_true zgglam
           have q114 : t107 < (t110.length : Int) := of_decide_eq_true zgglam
           obtain ⟨ad114, e114, hx114_0, hx114_1, hx114_2, hx114_3, hx114_4⟩ := at_T32 (Kd.R_reads' HO112.out).2.2 t107 p114 q114
           obtain rfl : ad113 = ad114 := (by injection e114)
           replace p114 := eq_true p114
           replace q114 := eq_true q114
           go_wp2_with (first | (refine gc_ Tryd.func23 (some 81) #[.string t106, .int .i64 ((rd_T32 t110 t107).f4)] ?_; (with_reducible refine (impl_SeqName.calls kj7 t106 ((rd_T32 t110 t107).f4) t115 t116 _ A34.out).mono ?_); rintro e w41 ⟨rfl, hb⟩; refine ⟨_, rfl, ?_⟩; replace HO112 := aa (Kd.R_below (zcaken HO112.out) hb); replace BK101 := aa (bb_ BK101.out hb); replace HB := aa (below_step zkmbdh hb); (try clear hb hk hi)) | (refine be_ 17 #[.int .i64 0, .string (⟨#[]⟩ : ByteArray)] 46 ?_; intro gb117 hg w42 hbox hb; have n0_ := aa (Kd.R_below (zcaken HO112.out) hb); have n1_ := aa (bb_ BK101.out hb); have n2_ := aa (below_step zkmbdh hb); have n3_ := aa (hbox); have n4_ := aa ((zmjkhl : w.heap.size ≤ gb117)); have n5_ := aa ((zmjkhl : w.heap.size ≤ gb117)); have n6_ := aa ((zmbojc : gb101 ≠ gb117)); have n7_ := aa ((zigkdk : gb117 ≠ gb101)); clear HO112; clear BK101; clear HB; have HO112 := n0_; have BK101 := n1_; have HB := n2_; have BK117 := n3_; have GW117 := n4_; have GE117 := n5_; have NB101_117 := n6_; have NB117_101 := n7_; clear n0_ n1_ n2_ n3_ n4_ n5_ n6_ n7_; clear hb hbox hg; have hnb43 := NB117_101.out; have hnc43 := NB101_117.out; obtain ⟨hcz44_0, hcz44_1, hfz44_0, hfz44_1⟩ := blk2_ BK117.out) | (refine gc_ Tryd.func43 (some 91) #[.string t105, .string t116] ?_; (with_reducible refine (impl_joined.calls t105 t116 t118 _ A36.out).mono ?_); rintro e w' ⟨rfl, ⟨nd, rfl⟩⟩; refine ⟨_, rfl, ?_⟩) | (refine gc_ Tryd.func44 (some 93) #[.string t118] ?_; (with_reducible refine (impl_PathFault.calls kj7 t118 t119 _ A37.out).mono ?_); rintro e w45 ⟨rfl, hb⟩; refine ⟨_, rfl, ?_⟩; have n0_ := aa (Kd.R_below (by (with_reducible repeat (first | apply Kd.R_alloc | apply Kd.R_drewN | apply Kd.R_drew)); exact (Kd.R_mono (Kd.R_far (p := ⟨gb117, 1, none⟩) (Kd.R_far (p := ⟨gb117, 0, none⟩) (Kd.R_types HO112.out BK117.out (by decide)) (fun _ hk => hk.2) (.int .i64 t115)) (fun _ hk => hk.2) (.string t116)) (fun _ h_ => h_.1))) hb); have n1_ := aa (blk_below (g := gb101) (o := .cells #[.int .i64 0, .string (⟨#[]⟩ : ByteArray), .slice none 0 0] 28 (0, 0)) zceggh hb); have n2_ := aa (blk_below (g := gb117) (o := .cells #[.int .i64 t115, .string t116] 46 (0, 0)) zdhpjj hb); have n3_ := aa (below_step zofhll hb); clear HO112; clear BK101; clear BK117; clear HB; have HO112 := n0_; have BK101 := n1_; have BK117 := n2_; have HB := n3_; clear n0_ n1_ n2_ n3_; (try clear hb hk hi); have p120 : 0 ≤ (t107 : Int) := of_decide_eq_true zgglam; have q120 : t107 < (t110.length : Int) := of_decide_eq_true zgglam; obtain ⟨ad120, e120, hx120_0, hx120_1, hx120_2, hx120_3, hx120_4⟩ := at_T32 (Kd.R_reads' HO112.out).2.2 t107 p120 q120; obtain rfl : ad113 = ad120 := (by injection e120); replace p120 := eq_true p120; replace q120 := eq_true q120; have p39 : 0 ≤ (t107 : Int) := of_decide_eq_true zgglam; have q39 : (t107 : Int) < ((t110.length : Int) : Int) := of_decide_eq_true zgglam; obtain ⟨go39, co39, eo39, gb39, gl39, cl39, HG39⟩ := Kd.R_form HO112.out (by omega); (first | cases eo39 | (injection eo39 with ea_ en_ ec_; (first | subst ea_ | (injection ea_ with ea_; subst ea_)); subst ec_; clear en_)); have GB39 := aa gb39; have GG39 := aa HG39; clear gb39 gl39 HG39; (first | simp only [add_plain] at hx113_0 | skip); (first | simp only [add_plain] at hx113_1 | skip); (first | simp only [add_plain] at hx113_2 | skip); (first | simp only [add_plain] at hx113_3 | skip); (first | simp only [add_plain] at hx113_4 | skip); (first | simp only [add_plain] at hx114_0 | skip); (first | simp only [add_plain] at hx114_1 | skip); (first | simp only [add_plain] at hx114_2 | skip); (first | simp only [add_plain] at hx114_3 | skip); (first | simp only [add_plain] at hx114_4 | skip); (first | simp only [add_plain] at hx120_0 | skip); (first | simp only [add_plain] at hx120_1 | skip); (first | simp only [add_plain] at hx120_2 | skip); (first | simp only [add_plain] at hx120_3 | skip); (first | simp only [add_plain] at hx120_4 | skip); obtain ⟨ce39, hcl39, hM39, hcc39, hfr39⟩ := Kd.R_elem HO112.out z32 (t107 : Int) p39 q39; obtain rfl := k32_openM hM39; have hx39_0 : w45.cell? ⟨go39, (t107 : Int).toNat * 5, none⟩ = some (.string ((rd_T32 t110 t107).f0)) := hcc39 0 _ rfl; have hx39_1 : w45.cell? ⟨go39, (t107 : Int).toNat * 5 + 1, none⟩ = some (.int .i64 ((rd_T32 t110 t107).f1)) := hcc39 1 _ rfl; have hx39_2 : w45.cell? ⟨go39, (t107 : Int).toNat * 5 + 2, none⟩ = some (.int .i64 ((rd_T32 t110 t107).f2)) := hcc39 2 _ rfl; have hx39_3 : w45.cell? ⟨go39, (t107 : Int).toNat * 5 + 3, none⟩ = some (.int .i64 ((rd_T32 t110 t107).f3)) := hcc39 3 _ rfl; have hx39_4 : w45.cell? ⟨go39, (t107 : Int).toNat * 5 + 4, none⟩ = some (.int .i64 ((rd_T32 t110 t107).f4)) := hcc39 4 _ rfl; have hf39_0 : w45.frozen? ⟨go39, (t107 : Int).toNat * 5, none⟩ = false := hfr39 0; have hf39_1 : w45.frozen? ⟨go39, (t107 : Int).toNat * 5 + 1, none⟩ = false := hfr39 1; have hf39_2 : w45.frozen? ⟨go39, (t107 : Int).toNat * 5 + 2, none⟩ = false := hfr39 2; have hf39_3 : w45.frozen? ⟨go39, (t107 : Int).toNat * 5 + 3, none⟩ = false := hfr39 3; have hf39_4 : w45.frozen? ⟨go39, (t107 : Int).toNat * 5 + 4, none⟩ = false := hfr39 4; clear hcl39 hcc39 hfr39 hM39; replace p39 := eq_true p39; replace q39 := eq_true q39; have HX46 := aa (show Kd.R k32 32 w45 w.heap.size (fun _ => True) (.slice (some ⟨go39, 0, none⟩) t110.length co40) t110 from (zcaken HO112.out)); obtain ⟨ce46, hcl46, hM46, hcc46, hfr46⟩ := Kd.R_elem HX46.out z32 (t107 : Int) (of_decide_eq_true zgglam) (by have h_ : (t107 : Int) < ((t110.length : Int) : Int) := of_decide_eq_true zgglam; first | exact h_ | (have e_ := (Kd.R_reads' HO112.out).1; omega) | simpa using h_); obtain rfl := k32_openM hM46; have HP46 := Kd.R_seg HX46.out (t107 : Int) (of_decide_eq_true zgglam) (by have h_ : (t107 : Int) < ((t110.length : Int) : Int) := of_decide_eq_true zgglam; first | exact h_ | (have e_ := (Kd.R_reads' HO112.out).1; omega) | simpa using h_) (seg := [.int .i64 (wrap64 (((rd_T32 t110 t107).f4) + 1))]) (j := 4) hcl46 hcc46 (show 5 ≤ 5 from by decide) (x' := (⟨(rd_T32 t110 t107).f0, (rd_T32 t110 t107).f1, (rd_T32 t110 t107).f2, (rd_T32 t110 t107).f3, wrap64 (((rd_T32 t110 t107).f4) + 1)⟩ : S32)) (k32_mkM _ _ _ (⟨(rd_T32 t110 t107).f0, (rd_T32 t110 t107).f1, (rd_T32 t110 t107).f2, (rd_T32 t110 t107).f3, wrap64 (((rd_T32 t110 t107).f4) + 1)⟩ : S32) ) (fun _ hk => hk); have hx46_4 := hcc46 4 _ rfl; (try simp only [show (k32).sz = 5 from rfl, Nat.mul_one, Nat.add_zero] at hx46_4); have hf46_4 := hfr46 4; (try simp only [show (k32).sz = 5 from rfl, Nat.mul_one, Nat.add_zero] at hf46_4); clear hcl46 hcc46 hfr46 hM46) | ((with_reducible refine gate_store (t := 2) (p := 105) rfl ?_); refine store_event (t := 2) (p := 105) (v := ?vo_w47) (w1 := (w45.setCell ⟨go39, (t107 : Int).toNat * 5 + 4, none⟩ (.int .i64 (wrap64 (((rd_T32 t110 t107).f4) + 1))))) ?hg ?ho ?hn ?hr ?_; (case ho => rfl); (case hg => rfl); (case hn => rfl); (case hr => exact zhlgcp); intro w47 hw; have hg : w45.grownBy w47 (some go39) := (by rw [hw]; exact HP46.2); have hp_ : Kd.R k32 32 w47 w.heap.size (fun _ => True) (.slice (some ⟨go39, 0, none⟩) t110.length co40) y121 := (by rw [hw, Ny121.out]; exact HP46.1); clear HP46; have n0_ := aa (blk_grown (g := gb101) (o := .cells #[.int .i64 0, .string (⟨#[]⟩ : ByteArray), .slice none 0 0] 28 (0, 0)) (zkjhpm BK101.out) hg (Kd.R_ne HO112.out BK101.out (by decide))); have n1_ := aa (hp_); have n2_ := aa (blk_grown (g := gb117) (o := .cells #[.int .i64 t115, .string t116] 46 (0, 0)) (zkjhpm BK117.out) hg (Kd.R_ne HO112.out BK117.out (by decide))); have n3_ := aa ((by rw [hw]; exact below_set (HB.out) GB39.out : Below w.heap.size w w47)); clear BK101; clear HO112; clear BK117; clear HB; have BK101 := n0_; have HO112 := n1_; have BK117 := n2_; have HB := n3_; clear n0_ n1_ n2_ n3_; clear hg hw hp_))
           go_meet
           case rel => exact ⟨_, (t118), (y121), (0), ((⟨#[]⟩ : ByteArray)), zagbkp, H', ⟨by have := HJ7.out; first | omega | exact Nat.le_refl _⟩, ⟨zcaken HO112.out⟩, ⟨zkjhpm BK101.out⟩, ⟨zofhll⟩⟩
          simp only [Option.some.injEq, Prod.mk.injEq] at H
          obtain ⟨rfl, rfl, rfl⟩ := H
          obtain ⟨Ao48, co48, eo48⟩ := Kd.R_slice HO112.out
          subst eo48
          have p113 : 0 ≤ (t107 : Int) := of_decide_eq_true zgglam
          have q113 : t107 < (t110.length : Int) := of_decide_eq_true zgglam
          obtain ⟨ad113, e113, hx113_0, hx113_1, hx113_2, hx113_3, hx113_4⟩ := at_T32 (Kd.R_reads' HO112.out).2.2 t107 p113 q113
          cases e113
          replace p113 := eq_true p113
          replace q113 := eq_true q113
          have p114 : 0 ≤ (t107 : Int) := of_decide_eq_true zgglam
          have q114 : t107 < (t110.length : Int) := of_decide_eq_true zgglam
          obtain ⟨ad114, e114, hx114_0, hx114_1, hx114_2, hx114_3, hx114_4⟩ := at_T32 (Kd.R_reads' HO112.out).2.2 t107 p114 q114
          obtain rfl : ad113 = ad114 := (by injection e114)
          replace p114 := eq_true p114
          replace q114 := eq_true q114
          go_wp2_with (first | (refine gc_ Tryd.func23 (some 81) #[.string t106, .int .i64 ((rd_T32 t110 t107).f4)] ?_; (with_reducible refine (impl_SeqName.calls kj7 t106 ((rd_T32 t110 t107).f4) t115 t116 _ A34.out).mono ?_); rintro e w49 ⟨rfl, hb⟩; refine ⟨_, rfl, ?_⟩; replace HO112 := aa (Kd.R_below (zcaken HO112.out) hb); replace BK101 := aa (bb_ BK101.out hb); replace HB := aa (below_step zkmbdh hb); (try clear hb hk hi)) | (refine be_ 17 #[.int .i64 0, .string (⟨#[]⟩ : ByteArray)] 46 ?_; intro gb117 hg w50 hbox hb; have n0_ := aa (Kd.R_below (zcaken HO112.out) hb); have n1_ := aa (bb_ BK101.out hb); have n2_ := aa (below_step zkmbdh hb); have n3_ := aa (hbox); have n4_ := aa ((zmjkhl : w.heap.size ≤ gb117)); have n5_ := aa ((zmjkhl : w.heap.size ≤ gb117)); have n6_ := aa ((zmbojc : gb101 ≠ gb117)); have n7_ := aa ((zigkdk : gb117 ≠ gb101)); clear HO112; clear BK101; clear HB; have HO112 := n0_; have BK101 := n1_; have HB := n2_; have BK117 := n3_; have GW117 := n4_; have GE117 := n5_; have NB101_117 := n6_; have NB117_101 := n7_; clear n0_ n1_ n2_ n3_ n4_ n5_ n6_ n7_; clear hb hbox hg; have hnb51 := NB117_101.out; have hnc51 := NB101_117.out; obtain ⟨hcz52_0, hcz52_1, hfz52_0, hfz52_1⟩ := blk2_ BK117.out) | (refine gc_ Tryd.func43 (some 91) #[.string t105, .string t116] ?_; (with_reducible refine (impl_joined.calls t105 t116 t118 _ A36.out).mono ?_); rintro e w' ⟨rfl, ⟨nd, rfl⟩⟩; refine ⟨_, rfl, ?_⟩) | (refine gc_ Tryd.func44 (some 93) #[.string t118] ?_; (with_reducible refine (impl_PathFault.calls kj7 t118 t119 _ A37.out).mono ?_); rintro e w53 ⟨rfl, hb⟩; refine ⟨_, rfl, ?_⟩; have n0_ := aa (Kd.R_below (by (with_reducible repeat (first | apply Kd.R_alloc | apply Kd.R_drewN | apply Kd.R_drew)); exact (Kd.R_mono (Kd.R_far (p := ⟨gb117, 1, none⟩) (Kd.R_far (p := ⟨gb117, 0, none⟩) (Kd.R_types HO112.out BK117.out (by decide)) (fun _ hk => hk.2) (.int .i64 t115)) (fun _ hk => hk.2) (.string t116)) (fun _ h_ => h_.1))) hb); have n1_ := aa (blk_below (g := gb101) (o := .cells #[.int .i64 0, .string (⟨#[]⟩ : ByteArray), .slice none 0 0] 28 (0, 0)) zceggh hb); have n2_ := aa (blk_below (g := gb117) (o := .cells #[.int .i64 t115, .string t116] 46 (0, 0)) zdhpjj hb); have n3_ := aa (below_step zofhll hb); clear HO112; clear BK101; clear BK117; clear HB; have HO112 := n0_; have BK101 := n1_; have BK117 := n2_; have HB := n3_; clear n0_ n1_ n2_ n3_; (try clear hb hk hi); obtain ⟨hcz54_0, hcz54_1, hcz54_2, hfz54_0, hfz54_1, hfz54_2⟩ := blk3_ BK101.out))
          refine bodyPost_ret (results_cell_row rfl _ _ gb101 28 #[.int .i64 t119, .string (⟨#[]⟩ : ByteArray), .slice none 0 0] (0, 0) _ rfl (by (with_reducible repeat (first | refine blk_drewN ?_ _ | refine blk_drew ?_ | refine blk_alloc ?_ _)); refine blk_put (cs := #[.int .i64 t119, .string (⟨#[]⟩ : ByteArray), .slice none 0 0]) ?_ 2 _ rfl; (with_reducible repeat (first | refine blk_drewN ?_ _ | refine blk_drew ?_ | refine blk_alloc ?_ _)); refine blk_put (cs := #[.int .i64 t119, .string (⟨#[]⟩ : ByteArray), .slice none 0 0]) ?_ 1 _ rfl; (with_reducible repeat (first | refine blk_drewN ?_ _ | refine blk_drew ?_ | refine blk_alloc ?_ _)); refine blk_put (cs := #[.int .i64 0, .string (⟨#[]⟩ : ByteArray), .slice none 0 0]) ?_ 0 _ rfl; (with_reducible repeat (first | refine blk_drewN ?_ _ | refine blk_drew ?_ | refine blk_alloc ?_ _)); exact BK101.out) Tryd.underlying28 rfl (by kernel_rfl)) rfl ?_
          exact ⟨_, zlhpib, zhijhk, zofhll⟩
         simp only [Option.some.injEq, Prod.mk.injEq] at H
         obtain ⟨rfl, rfl, rfl⟩ := H
         obtain ⟨Ao55, co55, eo55⟩ := Kd.R_slice HO112.out
         subst eo55
         have p113 : 0 ≤ (t107 : Int) := of_decide_eq_true zgglam
         have q113 : t107 < (t110.length : Int) := of_decide_eq_true zgglam
         obtain ⟨ad113, e113, hx113_0, hx113_1, hx113_2, hx113_3, hx113_4⟩ := at_T32 (Kd.R_reads' HO112.out).2.2 t107 p113 q113
         cases e113
         replace p113 := eq_true p113
         replace q113 := eq_true q113
         have p114 : 0 ≤ (t107 : Int) := of_decide_eq_true zgglam
         have q114 : t107 < (t110.length : Int) := of_decide_eq_true zgglam
         obtain ⟨ad114, e114, hx114_0, hx114_1, hx114_2, hx114_3, hx114_4⟩ := at_T32 (Kd.R_reads' HO112.out).2.2 t107 p114 q114
         obtain rfl : ad113 = ad114 := (by injection e114)
         replace p114 := eq_true p114
         replace q114 := eq_true q114
         go_wp2_with (first | (refine gc_ Tryd.func23 (some 81) #[.string t106, .int .i64 ((rd_T32 t110 t107).f4)] ?_; (with_reducible refine (impl_SeqName.calls kj7 t106 ((rd_T32 t110 t107).f4) t115 t116 _ A34.out).mono ?_); rintro e w56 ⟨rfl, hb⟩; refine ⟨_, rfl, ?_⟩; replace HO112 := aa (Kd.R_below (zcaken HO112.out) hb); replace BK101 := aa (bb_ BK101.out hb); replace HB := aa (below_step zkmbdh hb); (try clear hb hk hi)) | (refine be_ 17 #[.int .i64 0, .string (⟨#[]⟩ : ByteArray)] 46 ?_; intro gb117 hg w57 hbox hb; have n0_ := aa (Kd.R_below (zcaken HO112.out) hb); have n1_ := aa (bb_ BK101.out hb); have n2_ := aa (below_step zkmbdh hb); have n3_ := aa (hbox); have n4_ := aa ((zmjkhl : w.heap.size ≤ gb117)); have n5_ := aa ((zmjkhl : w.heap.size ≤ gb117)); have n6_ := aa ((zmbojc : gb101 ≠ gb117)); have n7_ := aa ((zigkdk : gb117 ≠ gb101)); clear HO112; clear BK101; clear HB; have HO112 := n0_; have BK101 := n1_; have HB := n2_; have BK117 := n3_; have GW117 := n4_; have GE117 := n5_; have NB101_117 := n6_; have NB117_101 := n7_; clear n0_ n1_ n2_ n3_ n4_ n5_ n6_ n7_; clear hb hbox hg; have hnb58 := NB117_101.out; have hnc58 := NB101_117.out; obtain ⟨hcz59_0, hcz59_1, hfz59_0, hfz59_1⟩ := blk2_ BK117.out; obtain ⟨hcz60_0, hcz60_1, hcz60_2, hfz60_0, hfz60_1, hfz60_2⟩ := blk3_ BK101.out))
         refine bodyPost_ret (results_cell_row rfl _ _ gb101 28 #[.int .i64 t115, .string (⟨#[]⟩ : ByteArray), .slice none 0 0] (0, 0) _ rfl (by (with_reducible repeat (first | refine blk_drewN ?_ _ | refine blk_drew ?_ | refine blk_alloc ?_ _)); refine blk_put (cs := #[.int .i64 t115, .string (⟨#[]⟩ : ByteArray), .slice none 0 0]) ?_ 2 _ rfl; (with_reducible repeat (first | refine blk_drewN ?_ _ | refine blk_drew ?_ | refine blk_alloc ?_ _)); refine blk_put (cs := #[.int .i64 t115, .string (⟨#[]⟩ : ByteArray), .slice none 0 0]) ?_ 1 _ rfl; (with_reducible repeat (first | refine blk_drewN ?_ _ | refine blk_drew ?_ | refine blk_alloc ?_ _)); refine blk_put (cs := #[.int .i64 0, .string (⟨#[]⟩ : ByteArray), .slice none 0 0]) ?_ 0 _ rfl; (with_reducible repeat (first | refine blk_drewN ?_ _ | refine blk_drew ?_ | refine blk_alloc ?_ _)); refine blk_far ?_ NB101_117.out _; (with_reducible repeat (first | refine blk_drewN ?_ _ | refine blk_drew ?_ | refine blk_alloc ?_ _)); refine blk_far ?_ NB101_117.out _; (with_reducible repeat (first | refine blk_drewN ?_ _ | refine blk_drew ?_ | refine blk_alloc ?_ _)); exact BK101.out) Tryd.underlying28 rfl (by kernel_rfl)) rfl ?_
         exact ⟨_, zlhpib, zhijhk, zofhll⟩
        replace c29 := Bool.eq_false_iff.mpr c29
        subst c29
        rw [if_neg fT_] at H
        have H' := aa H
        clear H
        go_wp2
        go_meet
        case rel => exact ⟨_, (a1), (t110), (0), ((⟨#[]⟩ : ByteArray)), zagbkp, H', ⟨by have := HJ7.out; first | omega | exact Nat.le_refl _⟩, ⟨zcaken HO112.out⟩, ⟨zkjhpm BK101.out⟩, ⟨zkmbdh⟩⟩
       case rest =>
        clear HC25
        try clear p1
        try clear q1
        try clear hx1
        try clear p2
        try clear p3
        try clear q3
        try clear hx3
        try clear hx4
        try clear c5
        try clear p6
        try clear c7b0
        try clear c7b1
        try clear p10
        try clear q10
        try clear hx10
        try clear p11
        try clear q11
        try clear hx11
        try clear c12
        try clear p12
        try clear q12
        try clear hx12
        try clear c14
        try clear c16b0
        try clear c16b1
        try clear c20
        try clear c21b0
        try clear c22b0
        try clear c23b0
        try clear c23b1
        try clear c29
        try clear c30b0
        try clear c30b2
        try clear c31b0
        try clear c31b1
        try clear c35b0
        try clear c35b1
        try clear c38b0
        try clear c38b1
        try clear p39
        try clear q39
        try clear hx39
        try clear hf39
        try clear hx46
        try clear hf46
        try clear hcz15_0
        try clear hcz15_1
        try clear hcz15_2
        try clear hcz17_0
        try clear hcz17_1
        try clear hcz17_2
        try clear hcz33_0
        try clear hcz33_1
        try clear hcz33_2
        try clear hcz44_0
        try clear hcz44_1
        try clear hcz52_0
        try clear hcz52_1
        try clear hcz54_0
        try clear hcz54_1
        try clear hcz54_2
        try clear hcz59_0
        try clear hcz59_1
        try clear hcz60_0
        try clear hcz60_1
        try clear hcz60_2
        try clear hfz15_0
        try clear hfz15_1
        try clear hfz15_2
        try clear hfz17_0
        try clear hfz17_1
        try clear hfz17_2
        try clear hfz33_0
        try clear hfz33_1
        try clear hfz33_2
        try clear hfz44_0
        try clear hfz44_1
        try clear hfz52_0
        try clear hfz52_1
        try clear hfz54_0
        try clear hfz54_1
        try clear hfz54_2
        try clear hfz59_0
        try clear hfz59_1
        try clear hfz60_0
        try clear hfz60_1
        try clear hfz60_2
        try clear hx109_0
        try clear hx109_1
        try clear hx109_2
        try clear hx109_3
        try clear hx109_4
        try clear hx113_0
        try clear hx113_1
        try clear hx113_2
        try clear hx113_3
        try clear hx113_4
        try clear hx114_0
        try clear hx114_1
        try clear hx114_2
        try clear hx114_3
        try clear hx114_4
        try clear hx120_0
        try clear hx120_1
        try clear hx120_2
        try clear hx120_3
        try clear hx120_4
        try clear hx39_0
        try clear hx39_1
        try clear hx39_2
        try clear hx39_3
        try clear hx39_4
        try clear hx46_4
        try clear p109
        try clear p113
        try clear p114
        try clear p120
        try clear p2
        try clear p39
        try clear q109
        try clear q113
        try clear q114
        try clear q120
        try clear q39
        obtain ⟨kq, x1_24, x16_24, x102000_24, x102001_24, rfl, HA, HJ24, HO_16, BK101, HB⟩ := hcut
        cases kq with
        | zero => exact absurd HA.out (by simp [impl_CreateZ.j1])
        | succ kj24 =>
         have H := HA.out
         clear HA
         simp only [impl_CreateZ.j1] at H
         revert H
         refine ob2_ fun t122 t123 A61 H => ?_
         (try dsimp only at H)
         by_cases c62 : t123 = true
         ·
          subst c62
          rw [if_pos rfl] at H
          simp only [Option.some.injEq, Prod.mk.injEq] at H
          obtain ⟨rfl, rfl, rfl⟩ := H
          obtain ⟨Ao63, co63, eo63⟩ := Kd.R_slice HO_16.out
          subst eo63
          go_wp2_with (first | (refine gc_ Tryd.func29 (some 109) #[.slice Ao63 x16_24.length co63, .string x1_24] ?_; (with_reducible refine (impl_find.calls kj24 _ _ x16_24 x1_24 t122 true _ ?side1 ?side2 A61.out).mono ?_); (case side1 => exact zbacae); (case side2 => exact (Kd.R_reads' HO_16.out).2.1); rintro e w64 ⟨rfl, hb⟩; refine ⟨_, rfl, ?_⟩; replace HO_16 := aa (Kd.R_below (zcaken HO_16.out) hb); replace BK101 := aa (bb_ BK101.out hb); replace HB := aa (below_step zkmbdh hb); (try clear hb hk hi); obtain ⟨hcz65_0, hcz65_1, hcz65_2, hfz65_0, hfz65_1, hfz65_2⟩ := blk3_ BK101.out))
          refine bodyPost_ret (results_cell_row rfl _ _ gb101 28 #[.int .i64 6, .string (⟨#[]⟩ : ByteArray), .slice none 0 0] (0, 0) _ rfl (by (with_reducible repeat (first | refine blk_drewN ?_ _ | refine blk_drew ?_ | refine blk_alloc ?_ _)); refine blk_put (cs := #[.int .i64 6, .string (⟨#[]⟩ : ByteArray), .slice none 0 0]) ?_ 2 _ rfl; (with_reducible repeat (first | refine blk_drewN ?_ _ | refine blk_drew ?_ | refine blk_alloc ?_ _)); refine blk_put (cs := #[.int .i64 6, .string x102001_24, .slice none 0 0]) ?_ 1 _ rfl; (with_reducible repeat (first | refine blk_drewN ?_ _ | refine blk_drew ?_ | refine blk_alloc ?_ _)); refine blk_put (cs := #[.int .i64 x102000_24, .string x102001_24, .slice none 0 0]) ?_ 0 _ rfl; (with_reducible repeat (first | refine blk_drewN ?_ _ | refine blk_drew ?_ | refine blk_alloc ?_ _)); exact BK101.out) Tryd.underlying28 rfl (by kernel_rfl)) rfl ?_
          exact ⟨_, zlhpib, zhijhk, zkmbdh⟩
         ·
          replace c62 := Bool.eq_false_iff.mpr c62
          subst c62
          rw [if_neg fT_] at H
          revert H
          refine itE_ (fun c66b0 c66b1 H => ?_) fun c66b0 c66b1 H => ?_
          ·
           simp only [Option.some.injEq, Prod.mk.injEq] at H
           obtain ⟨rfl, rfl, rfl⟩ := H
           obtain ⟨Ao67, co67, eo67⟩ := Kd.R_slice HO_16.out
           subst eo67
           go_wp2_with (first | (refine gc_ Tryd.func29 (some 109) #[.slice Ao67 x16_24.length co67, .string x1_24] ?_; (with_reducible refine (impl_find.calls kj24 _ _ x16_24 x1_24 t122 false _ ?side1 ?side2 A61.out).mono ?_); (case side1 => exact zbacae); (case side2 => exact (Kd.R_reads' HO_16.out).2.1); rintro e w68 ⟨rfl, hb⟩; refine ⟨_, rfl, ?_⟩; replace HO_16 := aa (Kd.R_below (zcaken HO_16.out) hb); replace BK101 := aa (bb_ BK101.out hb); replace HB := aa (below_step zkmbdh hb); (try clear hb hk hi); obtain ⟨hcz69_0, hcz69_1, hcz69_2, hfz69_0, hfz69_1, hfz69_2⟩ := blk3_ BK101.out))
           refine bodyPost_ret (results_cell_row rfl _ _ gb101 28 #[.int .i64 2, .string (⟨#[]⟩ : ByteArray), .slice none 0 0] (0, 0) _ rfl (by (with_reducible repeat (first | refine blk_drewN ?_ _ | refine blk_drew ?_ | refine blk_alloc ?_ _)); refine blk_put (cs := #[.int .i64 2, .string (⟨#[]⟩ : ByteArray), .slice none 0 0]) ?_ 2 _ rfl; (with_reducible repeat (first | refine blk_drewN ?_ _ | refine blk_drew ?_ | refine blk_alloc ?_ _)); refine blk_put (cs := #[.int .i64 2, .string x102001_24, .slice none 0 0]) ?_ 1 _ rfl; (with_reducible repeat (first | refine blk_drewN ?_ _ | refine blk_drew ?_ | refine blk_alloc ?_ _)); refine blk_put (cs := #[.int .i64 x102000_24, .string x102001_24, .slice none 0 0]) ?_ 0 _ rfl; (with_reducible repeat (first | refine blk_drewN ?_ _ | refine blk_drew ?_ | refine blk_alloc ?_ _)); exact BK101.out) Tryd.underlying28 rfl (by kernel_rfl)) rfl ?_
           exact ⟨_, zlhpib, zhijhk, zkmbdh⟩
          obtain ⟨y124, hy124⟩ : ∃ y_ : List (S32), y_ = (([(⟨x1_24, a2, 0, a3, 0⟩ : S32)] : List (S32))) := ⟨_, rfl⟩
          replace H : ((slices_Insert_impl_Znode_impl_Znode.f x16_24 t122 y124).bind fun t127 => (some (0, x1_24, t127))) = some (r1, r2, r3) := by cases hy124; exact H
          have Ny124 := aa hy124
          clear hy124
          revert H
          refine obs_ fun t127 A70 H => ?_
          simp only [Option.some.injEq, Prod.mk.injEq] at H
          obtain ⟨rfl, rfl, rfl⟩ := H
          obtain ⟨Ao71, co71, eo71⟩ := Kd.R_slice HO_16.out
          subst eo71
          go_wp2_with (first | (refine gc_ Tryd.func29 (some 109) #[.slice Ao71 x16_24.length co71, .string x1_24] ?_; (with_reducible refine (impl_find.calls kj24 _ _ x16_24 x1_24 t122 false _ ?side1 ?side2 A61.out).mono ?_); (case side1 => exact zbacae); (case side2 => exact (Kd.R_reads' HO_16.out).2.1); rintro e w72 ⟨rfl, hb⟩; refine ⟨_, rfl, ?_⟩; replace HO_16 := aa (Kd.R_below (zcaken HO_16.out) hb); replace BK101 := aa (bb_ BK101.out hb); replace HB := aa (below_step zkmbdh hb); (try clear hb hk hi)) | ((with_reducible refine gate_dst (N := 127) rfl ?_); refine Kd.R_lit k32 _ 32 ?hg (N := 127) ?hd (xs := ([(⟨x1_24, a2, 0, a3, 0⟩ : S32)] : List (S32))) (inner := [.string x1_24, .int .i64 a2, .int .i64 0, .int .i64 a3, .int .i64 0]) (ok := fun _ => True) (okp := fun _ => True) ?hr ?hp (fun _ hk => hk) trivial (Below.refl _ _) (Nat.le_refl _) (by simp) ?_; (case hd => rfl); (case hg => rfl); (case hr => exact zhlgcp); (case hp => exact (Reps.c5 (show Kd.M k32 _ _ _ (⟨x1_24, a2, 0, a3, 0⟩ : S32) [.string x1_24, .int .i64 a2, .int .i64 0, .int .i64 a3, .int .i64 0] from (k32_mkM _ _ _ (⟨x1_24, a2, 0, a3, 0⟩ : S32) )) (Reps.none _ _))); intro v125 w73 ho74 hb hg_ hnew_; clear hg_ hnew_; (first | rw [← Ny124.out] at ho74 | (simp only [Int.reduceToNat] at ho74; rw [← Ny124.out] at ho74)); have n0_ := aa (Kd.R_elder' (zcaken HO_16.out) (Kd.R_base ho74) hb); have n1_ := aa (Kd.R_lower (Kd.R_new' ho74 (Kd.R_lt (zcaken HO_16.out))) (below_size zkmbdh)); have n2_ := aa (bb_ BK101.out hb); have n3_ := aa (below_step zkmbdh hb); clear HO_16; clear BK101; clear HB; have HO_16 := n0_; have HO126 := n1_; have BK101 := n2_; have HB := n3_; clear n0_ n1_ n2_ n3_; clear hb ho74; obtain ⟨Ao75, co75, eo75⟩ := Kd.R_slice HO126.out; subst eo75) | (refine gc_ Tryd.func45 (some 128) #[.slice Ao71 x16_24.length co71, .int .i64 t122, .slice Ao75 y124.length co75] ?_; (with_reducible refine (slices_Insert_impl_Znode_impl_Znode.calls (fun k_ => some k_ = (.slice Ao71 x16_24.length co71 : Value).ownBlock) (.slice Ao71 x16_24.length co71) x16_24 t122 _ _ y124 t127 w _ ?side1 ?side2 ?side3 ?side4 ?sidex A70.out).mono ?_); (case side1 => exact zkmbdh); (case side2 => exact Kd.R_tight rfl HO_16.out); (case side3 => exact Kd.C_kept_own (HO126.out) (fun k_ hk_ hs_ => (hk_.2) hs_)); (case side4 => exact (Kd.R_reads' HO126.out).2.1); (case sidex => exact Go.Proofs.YtegggpipggniaaaDoor.Raw.own_plain (zcaken HO126.out)); rintro e w76 ⟨v128, rfl, ho0, hb, hkp⟩; refine ⟨_, rfl, ?_⟩; have n0_ := aa (blk_kept (zkjhpm BK101.out) hkp (fun hs_ => (fun e_ => (Kd.R_ne HO_16.out BK101.out (by decide)) e_) hs_)); have n1_ := aa (Kd.R_mono (ok' := fun k_ => some k_ ≠ (v128 : Value).ownBlock) (Kd.R_keptB (HO126.out) hkp (fun k_ hk_ hs_ => (hk_.2) hs_)) (fun k_ hk_ => fun e_ => Or.elim (ho0.1 k_ e_.symm) (fun hs_ => hk_.2.1 hs_) (fun hn_ => Nat.not_le.2 hk_.2.2 hn_))); have n2_ := aa (Kd.R_mono (ok' := fun k_ => some k_ ≠ (.slice Ao75 y124.length co75 : Value).ownBlock) ho0 (fun k_ hk_ => Or.elim hk_ (fun hs_ => fun e_ => (((HO126.out).1 k_ e_.symm).2) hs_) (fun hn_ => (Kd.fresh' (Kd.R_lt (zcaken HO126.out)) k_ hn_)))); have n3_ := aa (hb); clear BK101; clear HO126; clear HB; clear HO_16; have BK101 := n0_; have HO126 := n1_; have HO129 := n2_; have HB := n3_; clear n0_ n1_ n2_ n3_; (try clear hb hkp ho0); obtain ⟨Ao77, co77, eo77⟩ := Kd.R_slice HO129.out; subst eo77; obtain ⟨hcz78_0, hcz78_1, hcz78_2, hfz78_0, hfz78_1, hfz78_2⟩ := blk3_ BK101.out))
          refine bodyPost_ret (results_cell_row rfl _ _ gb101 28 #[.int .i64 0, .string x1_24, .slice Ao77 t127.length co77] (0, 0) _ rfl (by (with_reducible repeat (first | refine blk_drewN ?_ _ | refine blk_drew ?_ | refine blk_alloc ?_ _)); refine blk_put (cs := #[.int .i64 0, .string x1_24, .slice none 0 0]) ?_ 2 _ rfl; (with_reducible repeat (first | refine blk_drewN ?_ _ | refine blk_drew ?_ | refine blk_alloc ?_ _)); refine blk_put (cs := #[.int .i64 0, .string x102001_24, .slice none 0 0]) ?_ 1 _ rfl; (with_reducible repeat (first | refine blk_drewN ?_ _ | refine blk_drew ?_ | refine blk_alloc ?_ _)); refine blk_put (cs := #[.int .i64 x102000_24, .string x102001_24, .slice none 0 0]) ?_ 0 _ rfl; (with_reducible repeat (first | refine blk_drewN ?_ _ | refine blk_drew ?_ | refine blk_alloc ?_ _)); exact BK101.out) Tryd.underlying28 rfl (by kernel_rfl)) rfl ?_
          exact ⟨_, zlhpib, by (with_reducible repeat (first | apply Kd.R_alloc | apply Kd.R_drewN | apply Kd.R_drew)); exact Kd.R_mono (Kd.R_far (p := ⟨gb101, 2, none⟩) (Kd.R_far (p := ⟨gb101, 1, none⟩) (Kd.R_far (p := ⟨gb101, 0, none⟩) (Kd.R_types HO129.out BK101.out (by decide)) (fun _ hk => hk.2) (.int .i64 0)) (fun _ hk => hk.2) (.string x1_24)) (fun _ hk => hk.2) (.slice Ao77 t127.length co77)) (fun _ hk => trivial), zkmbdh⟩
      simp only [Option.some.injEq, Prod.mk.injEq] at H
      obtain ⟨rfl, rfl, rfl⟩ := H
      go_wp2_with (first | (refine gc_ Tryd.func37 (some 44) #[.string a1] ?_; (with_reducible refine (impl_parted.calls kj7 a1 t105 t106 _ A18.out).mono ?_); rintro e w79 ⟨rfl, hb⟩; refine ⟨_, rfl, ?_⟩; replace BK101 := aa (bb_ BK101.out hb); replace HB := aa (below_step zkmbdh hb); (try clear hb hk hi)) | (refine gc_ Tryd.func29 (some 50) #[.slice A0 l0.length c0, .string t105] ?_; (with_reducible refine (impl_find.calls kj7 _ _ l0 t105 t107 true _ zfmbgg HC0.out A19.out).mono ?_); rintro e w80 ⟨rfl, hb⟩; refine ⟨_, rfl, ?_⟩; replace BK101 := aa (bb_ BK101.out hb); replace HB := aa (below_step zkmbdh hb); (try clear hb hk hi); have p109 : 0 ≤ (t107 : Int) := of_decide_eq_true zgglam; have q109 : t107 < (l0.length : Int) := of_decide_eq_true zgglam; obtain ⟨ad109, e109, hx109_0, hx109_1, hx109_2, hx109_3, hx109_4⟩ := at_T32 HR0.out t107 p109 q109; cases e109; replace hx109_0 := pb HB.out hx109_0; replace hx109_1 := pb HB.out hx109_1; replace hx109_2 := pb HB.out hx109_2; replace hx109_3 := pb HB.out hx109_3; replace hx109_4 := pb HB.out hx109_4; replace p109 := eq_true p109; replace q109 := eq_true q109; obtain ⟨hcz81_0, hcz81_1, hcz81_2, hfz81_0, hfz81_1, hfz81_2⟩ := blk3_ BK101.out))
      refine bodyPost_ret (results_cell_row rfl _ _ gb101 28 #[.int .i64 8, .string (⟨#[]⟩ : ByteArray), .slice none 0 0] (0, 0) _ rfl zeoiik Tryd.underlying28 rfl (by kernel_rfl)) rfl ?_
      exact ⟨_, zlhpib, zhijhk, zkmbdh⟩
     replace c20 := Bool.eq_false_iff.mpr c20
     subst c20
     rw [if_neg fT_] at H
     simp only [Option.some.injEq, Prod.mk.injEq] at H
     obtain ⟨rfl, rfl, rfl⟩ := H
     go_wp2_with (first | (refine gc_ Tryd.func37 (some 44) #[.string a1] ?_; (with_reducible refine (impl_parted.calls kj7 a1 t105 t106 _ A18.out).mono ?_); rintro e w82 ⟨rfl, hb⟩; refine ⟨_, rfl, ?_⟩; replace BK101 := aa (bb_ BK101.out hb); replace HB := aa (below_step zkmbdh hb); (try clear hb hk hi)) | (refine gc_ Tryd.func29 (some 50) #[.slice A0 l0.length c0, .string t105] ?_; (with_reducible refine (impl_find.calls kj7 _ _ l0 t105 t107 false _ zfmbgg HC0.out A19.out).mono ?_); rintro e w83 ⟨rfl, hb⟩; refine ⟨_, rfl, ?_⟩; replace BK101 := aa (bb_ BK101.out hb); replace HB := aa (below_step zkmbdh hb); (try clear hb hk hi); obtain ⟨hcz84_0, hcz84_1, hcz84_2, hfz84_0, hfz84_1, hfz84_2⟩ := blk3_ BK101.out))
     refine bodyPost_ret (results_cell_row rfl _ _ gb101 28 #[.int .i64 4, .string (⟨#[]⟩ : ByteArray), .slice none 0 0] (0, 0) _ rfl zcgheb Tryd.underlying28 rfl (by kernel_rfl)) rfl ?_
     exact ⟨_, zlhpib, zhijhk, zkmbdh⟩
 simp only [Option.some.injEq, Prod.mk.injEq] at H
 obtain ⟨rfl, rfl, rfl⟩ := H
 go_enter Tryd.func16, Tryd.ntmps16
 go_wp2_with (first | (refine be_ 10 #[.int .i64 0, .string (⟨#[]⟩ : ByteArray), .slice none 0 0] 28 ?_; intro gb101 hg w85 hbox hb; have n0_ := aa (below_step zjjbob hb); have n1_ := aa (hbox); have n2_ := aa ((zkpfjp : w.heap.size ≤ gb101)); have n3_ := aa ((zkpfjp : w.heap.size ≤ gb101)); clear HB; have HB := n0_; have BK101 := n1_; have GW101 := n2_; have GE101 := n3_; clear n0_ n1_ n2_ n3_; clear hb hbox hg) | (refine gc_ Tryd.func28 (some 23) #[.slice A0 l0.length c0, .string a1] ?_; (with_reducible refine (impl_zCode.calls k _ _ l0 a1 t102 _ zfmbgg HC0.out A6.out).mono ?_); rintro e w86 ⟨rfl, hb⟩; refine ⟨_, rfl, ?_⟩; replace BK101 := aa (bb_ BK101.out hb); replace HB := aa (below_step zkmbdh hb); (try clear hb hk hi); obtain ⟨hcz87_0, hcz87_1, hcz87_2, hfz87_0, hfz87_1, hfz87_2⟩ := blk3_ BK101.out))
 refine bodyPost_ret (results_cell_row rfl _ _ gb101 28 #[.int .i64 t102, .string (⟨#[]⟩ : ByteArray), .slice none 0 0] (0, 0) _ rfl zpdnbb Tryd.underlying28 rfl (by kernel_rfl)) rfl ?_
 exact ⟨_, zlhpib, zhijhk, zkmbdh⟩
end Go.Proofs.YtegggpipggniaaaDoor.Qa
namespace Go.Proofs.YtegggpipggniaaaDoor.Qa
open Go.RowKit Go.Proofs.YtegggpipggniaaaDoorW.PrintWords Go.Proofs.YtegggpipggniaaaDoorW.PrintLast Go.Proofs.YtegggpipggniaaaDoorW.PrintMore
attribute [local go_sem] max2_int min2_int max_two min_two max_three min_three max_four min_four
set_option linter.unusedVariables false
set_option linter.unusedSimpArgs false
/-- A state of type 80 at block g of W; what its slices lead to came in by w0. -/
def IsS80 (w0 W : World) (g : Nat) (f0 : List Int) (f1 : Int) : Prop := ∃ A0 c0, W.heap[g]? = some (.cells #[.slice A0 f0.length c0, .int .i64 f1] 80 (0, 0)) ∧ w0.heap.size ≤ g ∧ Kd.C (Kd.int .u8) w0 A0 f0.length f0
theorem IsS80.grown {w0 W : World} {g : Nat} {f0 : List Int} {f1 : Int} {W1 : World} {row : Option Nat} (h : IsS80 w0 W g f0 f1) (hw : W.grownBy W1 row) (hne : some g ≠ row) : IsS80 w0 W1 g f0 f1 := by
 obtain ⟨A0, c0, hb, hg, hr0⟩ := h
 exact ⟨A0, c0, blk_grown hb hw hne, hg, hr0⟩
theorem IsS80.own_neN {w0 W : World} {g : Nat} {f0 : List Int} {f1 : Int} {α : Type} {d : Kd α} {e : Nat} {base : Nat} {ok : Nat → Prop} {v : Value} {xs : List α} (h : IsS80 w0 W g f0 f1) (ho : Kd.N d e W base ok v xs) (ht : e ≠ 80) : some g ≠ v.ownBlock := by
 obtain ⟨A0, c0, hb, hg, hr0⟩ := h
 exact Kd.N_ne ho hb ht
theorem IsS80.fresh {w0 W : World} {g : Nat} {f0 : List Int} {f1 : Int} (h : IsS80 w0 W g f0 f1) : ∀ k, W.heap.size ≤ k → k ≠ g := by
 obtain ⟨A0, c0, hb, hg, hr0⟩ := h
 exact Kd.freshB hb
theorem IsS80.kept {w0 W : World} {g : Nat} {f0 : List Int} {f1 : Int} {W1 : World} {S : Nat → Prop} (h : IsS80 w0 W g f0 f1) (hk : Kept W W1 S) (hne : ¬ S g) : IsS80 w0 W1 g f0 f1 := by
 obtain ⟨A0, c0, hb, hg, hr0⟩ := h
 exact ⟨A0, c0, blk_kept hb hk hne, hg, hr0⟩
theorem IsS80.below {w0 W : World} {g : Nat} {f0 : List Int} {f1 : Int} {W1 : World} (h : IsS80 w0 W g f0 f1) (hw : Below W.heap.size W W1) : IsS80 w0 W1 g f0 f1 := h.grown (grown_of_below hw none) (by simp)
theorem IsS80.alloc {w0 W : World} {g : Nat} {f0 : List Int} {f1 : Int} (h : IsS80 w0 W g f0 f1) (o : Obj) : IsS80 w0 (W.alloc o) g f0 f1 := h.below (below_alloc (Below.refl _ _) o)
theorem IsS80.drewN {w0 W : World} {g : Nat} {f0 : List Int} {f1 : Int} (h : IsS80 w0 W g f0 f1) (m : Nat) : IsS80 w0 (W.drewN m) g f0 f1 := h
theorem IsS80.drew {w0 W : World} {g : Nat} {f0 : List Int} {f1 : Int} (h : IsS80 w0 W g f0 f1) : IsS80 w0 W.drew g f0 f1 := h
theorem IsS80.at_ {w0 W : World} {g : Nat} {f0 : List Int} {f1 : Int} {w' : World} {m : Nat} (hq : W.drewN m = w') (h : IsS80 w0 W g f0 f1) : IsS80 w0 w' g f0 f1 := by subst hq; exact IsS80.drewN h m
theorem IsS80.apart {w0 W : World} {g : Nat} {f0 : List Int} {f1 : Int} {α : Type} {d : Kd α} {e : Nat} {base : Nat} {ok : Nat → Prop} {v : Value} {xs : List α} (h : IsS80 w0 W g f0 f1) (ho : d.R e W base ok v xs) (ht : ∀ q, q ∈ e :: d.E → q ≠ 80) : d.R e W base (fun k => ok k ∧ k ≠ g) v xs := by
 obtain ⟨A0, c0, hb, hg, hr0⟩ := h
 exact Kd.R_types ho hb ht
theorem IsS80.own_ne {w0 W : World} {g : Nat} {f0 : List Int} {f1 : Int} {α : Type} {d : Kd α} {e : Nat} {base : Nat} {ok : Nat → Prop} {v : Value} {xs : List α} (h : IsS80 w0 W g f0 f1) (ho : d.R e W base ok v xs) (ht : e ≠ 80) : some g ≠ v.ownBlock := by
 obtain ⟨A0, c0, hb, hg, hr0⟩ := h
 exact Kd.R_ne ho hb ht
theorem IsS80.apartQ {w0 W : World} {g : Nat} {f0 : List Int} {f1 : Int} {α : Type} {d : Kd α} {e : Nat} {base : Nat} {ok : Nat → Prop} {v : Value} {xs : List α} (h : IsS80 w0 W g f0 f1) (ho : d.Q e W base ok v xs) (ht : ∀ q, q ∈ e :: d.E → q ≠ 80) : d.Q e W base (fun k => ok k ∧ k ≠ g) v xs := by
 obtain ⟨A0, c0, hb, hg, hr0⟩ := h
 exact Kd.Q_types ho hb ht
theorem IsS80.own_neQ {w0 W : World} {g : Nat} {f0 : List Int} {f1 : Int} {α : Type} {d : Kd α} {e : Nat} {base : Nat} {ok : Nat → Prop} {v : Value} {xs : List α} (h : IsS80 w0 W g f0 f1) (ho : d.Q e W base ok v xs) (ht : e ≠ 80) : some g ≠ v.ownBlock := by
 obtain ⟨A0, c0, hb, hg, hr0⟩ := h
 exact Kd.Q_ne ho hb ht
theorem IsS80.apartS {w0 W : World} {g : Nat} {f0 : List Int} {f1 : Int} {α : Type} {d : Kd α} {e : Nat} {base : Nat} {ok : Nat → Prop} {v : Value} {xs : List α} (h : IsS80 w0 W g f0 f1) (ho : d.S e W base ok v xs) (ht : ∀ q, q ∈ e :: d.E → q ≠ 80) : d.S e W base (fun k => ok k ∧ k ≠ g) v xs := by
 obtain ⟨A0, c0, hb, hg, hr0⟩ := h
 exact Kd.S_types ho hb ht
theorem IsS80.own_neS {w0 W : World} {g : Nat} {f0 : List Int} {f1 : Int} {α : Type} {d : Kd α} {e : Nat} {base : Nat} {ok : Nat → Prop} {v : Value} {xs : List α} (h : IsS80 w0 W g f0 f1) (ho : d.S e W base ok v xs) (ht : e ≠ 80) : some g ≠ v.ownBlock := by
 obtain ⟨A0, c0, hb, hg, hr0⟩ := h
 exact Kd.S_ne ho hb ht
theorem IsS80.lt {w0 W : World} {g : Nat} {f0 : List Int} {f1 : Int} (h : IsS80 w0 W g f0 f1) : g < W.heap.size := by
 obtain ⟨A0, c0, hb, hg, hr0⟩ := h
 exact blk_lt hb
theorem IsS80.ge {w0 W : World} {g : Nat} {f0 : List Int} {f1 : Int} (h : IsS80 w0 W g f0 f1) : w0.heap.size ≤ g := by
 obtain ⟨A0, c0, hb, hg, hr0⟩ := h
 exact hg
theorem IsS80.ne_blk {w0 W : World} {g : Nat} {f0 : List Int} {f1 : Int} {a : Nat} {cs : Array Value} {t : TypeId} {fr : Nat × Nat} (h : IsS80 w0 W g f0 f1) (hb2 : W.heap[a]? = some (.cells cs t fr)) (ht : t ≠ 80) : g ≠ a := by
 obtain ⟨A0, c0, hb, hg, hr0⟩ := h
 rintro rfl
 rw [hb] at hb2
 injection hb2 with hb2
 injection hb2 with _ ht2
 exact ht ht2.symm
theorem IsS80.far {w0 W : World} {g : Nat} {f0 : List Int} {f1 : Int} {p : Addr} (h : IsS80 w0 W g f0 f1) (hne : g ≠ p.block) (u : Value) : IsS80 w0 (W.setCell p u) g f0 f1 := by
 obtain ⟨A0, c0, hb, hg, hr0⟩ := h
 exact ⟨A0, c0, blk_far hb hne u, hg, hr0⟩
theorem cellS80_0 {W : World} {g : Nat} {A0 : Option Addr} {c0 : Nat} {f0 : List Int} {f1 : Int} (h : W.heap[g]? = some (.cells #[.slice A0 f0.length c0, .int .i64 f1] 80 (0, 0))) : W.cell? ⟨g, 0, none⟩ = some (.slice A0 f0.length c0) := (blk_cell h 0).trans rfl
theorem cellS80_1 {W : World} {g : Nat} {A0 : Option Addr} {c0 : Nat} {f0 : List Int} {f1 : Int} (h : W.heap[g]? = some (.cells #[.slice A0 f0.length c0, .int .i64 f1] 80 (0, 0))) : W.cell? ⟨g, 1, none⟩ = some (.int .i64 f1) := (blk_cell h 1).trans rfl
theorem IsS80.set_1 {w0 W : World} {g : Nat} {f0 : List Int} {f1 : Int} (h : IsS80 w0 W g f0 f1) (x : Int) : IsS80 w0 (W.setCell ⟨g, 1, none⟩ (.int .i64 x)) g f0 x := by
 obtain ⟨A0, c0, hb, hg, hr0⟩ := h
 exact ⟨A0, c0, by simpa using blk_set hb 1 (.int .i64 x), hg, hr0⟩
theorem IsS80.new (w0 W : World) (A0 : Option Addr) (c0 : Nat) (f0 : List Int) (f1 : Int) (hB : Below w0.heap.size w0 W) (hr0 : Kd.C (Kd.int .u8) w0 A0 f0.length f0) : IsS80 w0 (W.alloc (.cells #[.slice A0 f0.length c0, .int .i64 f1] 80)) W.heap.size f0 f1 := ⟨A0, c0, by simpa using heap_alloc_new W _, hB.size, hr0⟩
set_option maxHeartbeats 8000000
set_option maxRecDepth 100000

def spec_l1Later.f (l0 : List Int) (a1 : Int) : Option (List Int × Int) := some (l0, wrap64 (5 + (wrap64 (7 * a1))))
theorem spec_l1Later.calls (A0 : Option Addr) (c0 : Nat) (l0 : List Int) (a1 : Int) (r1 : List Int) (r2 : Int) (w0 w : World) (hB : Below w0.heap.size w0 w) (hr0 : Kd.C (Kd.int .u8) w0 A0 l0.length l0) (hc0 : l0.length ≤ c0) (h : spec_l1Later.f l0 a1 = some (r1, r2)) :
  Calls Tryd.prog 25 #[.slice A0 l0.length c0, .int .i64 a1] w fun e w' => ∃ g_ : Nat, e = .returned (.pointer (some ⟨g_, 0, none⟩)) ∧ IsS80 w0 w' g_ r1 r2 ∧ Below w0.heap.size w0 w' ∧ Below w.heap.size w w' := by
 have hu80 := Tryd.underlying80
 have HR0 := aa hr0
 have HC0 := aa hc0
 clear hr0 hc0
 have HBW := aa (Below.refl w.heap.size w)
 have HW0 := aa hB.size
 have HB := aa hB
 clear hB
 have H : (some (l0, wrap64 (5 + (wrap64 (7 * a1))))) = some (r1, r2) := h
 clear h
 simp only [Option.some.injEq, Prod.mk.injEq] at H
 obtain ⟨rfl, rfl⟩ := H
 go_enter Tryd.func25, Tryd.ntmps25
 go_wp2_with (first | (refine be_ 10 #[.slice A0 l0.length c0, .int .i64 (wrap64 (5 + (wrap64 (7 * a1))))] 80 ?_; intro gb101 hg w3 hbox hb; have n0_ := aa (below_step HBW.out hb); have n1_ := aa (below_step zjjbob hb); have n2_ := aa (hbox); have n3_ := aa ((zlfkmp : w.heap.size ≤ gb101)); have n4_ := aa ((Nat.le_trans HW0.out (zlfkmp : w.heap.size ≤ gb101) : w0.heap.size ≤ gb101)); clear HBW; clear HB; have HBW := n0_; have HB := n1_; have BK101 := n2_; have GW101 := n3_; have GE101 := n4_; clear n0_ n1_ n2_ n3_ n4_; clear hb hbox hg))
 go_ret
 exact ⟨_, rfl, (show IsS80 w0 _ gb101 l0 (wrap64 (5 + (wrap64 (7 * a1)))) from ⟨_, _, by (with_reducible repeat (first | refine blk_drewN ?_ _ | refine blk_drew ?_ | refine blk_alloc ?_ _)); exact BK101.out, GE101.out, HR0.out⟩), zkmbdh, zkegoc⟩
end Go.Proofs.YtegggpipggniaaaDoor.Qa
namespace Go.Proofs.YtegggpipggniaaaDoor.Qa
open Go.RowKit Go.Proofs.YtegggpipggniaaaDoorW.PrintWords Go.Proofs.YtegggpipggniaaaDoorW.PrintLast Go.Proofs.YtegggpipggniaaaDoorW.PrintMore
attribute [local go_sem] max2_int min2_int max_two min_two max_three min_three max_four min_four
set_option linter.unusedVariables false
set_option linter.unusedSimpArgs false
set_option maxHeartbeats 8000000
set_option maxRecDepth 100000
def spec_l1Next.f (s0_0 : List Int) (s0_1 : Int) (a1 : Int) : Option (Int × Int) := if a1 < 1 then (some (0, wrap64 (s0_1 + 1))) else (if (s0_0.length : Int) = 0 then (if a1 = 0 then (none) else (some (Int.tmod (wrap64 ((wrap64 ((wrap64 (s0_1 + 1)) - 1)) * 7)) a1, wrap64 (s0_1 + 1)))) else (if 0 ≤ (Int.tmod (wrap64 ((wrap64 (s0_1 + 1)) - 1)) (s0_0.length : Int)) then (if (Int.tmod (wrap64 ((wrap64 (s0_1 + 1)) - 1)) (s0_0.length : Int)) < (s0_0.length : Int) then (if a1 > 200 then (if 0 ≤ (Int.tmod (wrap64 ((wrap64 ((wrap64 (s0_1 + 1)) - 1)) + 1)) (s0_0.length : Int)) then (if (Int.tmod (wrap64 ((wrap64 ((wrap64 (s0_1 + 1)) - 1)) + 1)) (s0_0.length : Int)) < (s0_0.length : Int) then (if a1 = 0 then (none) else (some (Int.tmod (wrap64 ((wrap64 ((wrap64 ((wrap64 ((wrap64 (rd s0_0 (Int.tmod (wrap64 ((wrap64 (s0_1 + 1)) - 1)) (s0_0.length : Int)))) + (wrap64 ((wrap64 (Int.tdiv (wrap64 ((wrap64 (s0_1 + 1)) - 1)) (s0_0.length : Int))) * 37)))) * 251)) + (wrap64 ((wrap64 (rd s0_0 (Int.tmod (wrap64 ((wrap64 ((wrap64 (s0_1 + 1)) - 1)) + 1)) (s0_0.length : Int)))) * 13)))) + (wrap64 ((wrap64 (s0_1 + 1)) - 1)))) a1, wrap64 (s0_1 + 1)))) else (none)) else (none)) else (if a1 = 0 then (none) else (some (Int.tmod (wrap64 ((wrap64 (rd s0_0 (Int.tmod (wrap64 ((wrap64 (s0_1 + 1)) - 1)) (s0_0.length : Int)))) + (wrap64 ((wrap64 (Int.tdiv (wrap64 ((wrap64 (s0_1 + 1)) - 1)) (s0_0.length : Int))) * 37)))) a1, wrap64 (s0_1 + 1))))) else (none)) else (none)))
theorem spec_l1Next.calls (g : Nat) (s0_0 : List Int) (s0_1 : Int) (a1 : Int) (r1 : Int) (r2 : Int) (w0 w : World) (hI : IsS80 w0 w g s0_0 s0_1) (hB : Below w0.heap.size w0 w) (h : spec_l1Next.f s0_0 s0_1 a1 = some (r1, r2)) :
  Calls Tryd.prog 27 #[.pointer (some ⟨g, 0, none⟩), .int .i64 a1] w fun e w' => e = .returned (.int .i64 r1) ∧ IsS80 w0 w' g s0_0 r2 ∧ Below w0.heap.size w0 w' ∧ KeepBut w w' g none := by
 have HI0 := aa hI
 have HK := aa (KeepBut.refl w g none)
 have HL := aa hB.size
 clear hI
 have HW0 := aa hB.size
 have HB := aa hB
 clear hB
 have H : (if a1 < 1 then (some (0, wrap64 (s0_1 + 1))) else (if (s0_0.length : Int) = 0 then (if a1 = 0 then (none) else (some (Int.tmod (wrap64 ((wrap64 ((wrap64 (s0_1 + 1)) - 1)) * 7)) a1, wrap64 (s0_1 + 1)))) else (if 0 ≤ (Int.tmod (wrap64 ((wrap64 (s0_1 + 1)) - 1)) (s0_0.length : Int)) then (if (Int.tmod (wrap64 ((wrap64 (s0_1 + 1)) - 1)) (s0_0.length : Int)) < (s0_0.length : Int) then (if a1 > 200 then (if 0 ≤ (Int.tmod (wrap64 ((wrap64 ((wrap64 (s0_1 + 1)) - 1)) + 1)) (s0_0.length : Int)) then (if (Int.tmod (wrap64 ((wrap64 ((wrap64 (s0_1 + 1)) - 1)) + 1)) (s0_0.length : Int)) < (s0_0.length : Int) then (if a1 = 0 then (none) else (some (Int.tmod (wrap64 ((wrap64 ((wrap64 ((wrap64 ((wrap64 (rd s0_0 (Int.tmod (wrap64 ((wrap64 (s0_1 + 1)) - 1)) (s0_0.length : Int)))) + (wrap64 ((wrap64 (Int.tdiv (wrap64 ((wrap64 (s0_1 + 1)) - 1)) (s0_0.length : Int))) * 37)))) * 251)) + (wrap64 ((wrap64 (rd s0_0 (Int.tmod (wrap64 ((wrap64 ((wrap64 (s0_1 + 1)) - 1)) + 1)) (s0_0.length : Int)))) * 13)))) + (wrap64 ((wrap64 (s0_1 + 1)) - 1)))) a1, wrap64 (s0_1 + 1)))) else (none)) else (none)) else (if a1 = 0 then (none) else (some (Int.tmod (wrap64 ((wrap64 (rd s0_0 (Int.tmod (wrap64 ((wrap64 (s0_1 + 1)) - 1)) (s0_0.length : Int)))) + (wrap64 ((wrap64 (Int.tdiv (wrap64 ((wrap64 (s0_1 + 1)) - 1)) (s0_0.length : Int))) * 37)))) a1, wrap64 (s0_1 + 1))))) else (none)) else (none)))) = some (r1, r2) := h
 clear h
 revert H
 refine itD_ (fun c3b0 H => ?_) fun c3b0 H => ?_
 ·
  simp only [Option.some.injEq, Prod.mk.injEq] at H
  obtain ⟨rfl, rfl⟩ := H
  obtain ⟨ASz4_0, cSz4_0, HGz4, hgz4, HSz4_0⟩ := HI0.out
  have hcz4_0 := cellS80_0 HGz4
  have hcz4_1 := cellS80_1 HGz4
  have hfz4_1 := blk_frozen HGz4 1
  clear HGz4 hgz4
  go_enter Tryd.func27, Tryd.ntmps27
  go_wp2
  repeat (go_quiet (fail); try go_wp2)
  go_ret
  exact ⟨zlhpib, zhpbib, zicchn, zncgdm⟩
 revert H
 refine itC_ (fun c5 H => ?_) fun c5 H => ?_
 ·
  have c5b0 := beq_iff_eq.mpr c5
  have c5b1 := bne_eq_false_iff_eq.mpr c5
  clear c5
  revert H
  refine itC_ (fun c6 H => ?_) fun c6 H => ?_
  ·
   exact absurd H (by simp)
  have c6b0 := beq_eq_false_iff_ne.mpr c6
  have c6b1 := bne_iff_ne.mpr c6
  simp only [Option.some.injEq, Prod.mk.injEq] at H
  obtain ⟨rfl, rfl⟩ := H
  obtain ⟨ASz7_0, cSz7_0, HGz7, hgz7, HSz7_0⟩ := HI0.out
  have hcz7_0 := cellS80_0 HGz7
  have hcz7_1 := cellS80_1 HGz7
  have hfz7_1 := blk_frozen HGz7 1
  clear HGz7 hgz7
  go_enter Tryd.func27, Tryd.ntmps27
  go_wp2
  repeat (go_quiet (fail); try go_wp2)
  go_ret
  exact ⟨zlhpib, zhpbib, zicchn, zncgdm⟩
 have c5b0 := beq_eq_false_iff_ne.mpr c5
 have c5b1 := bne_iff_ne.mpr c5
 have c5b2 : ¬ (s0_0 = []) := fun h_ => c5 (by rw [h_]; rfl)
 obtain ⟨ji8, hji8⟩ : ∃ j_ : Int, (Int.tmod (wrap64 ((wrap64 (s0_1 + 1)) - 1)) (s0_0.length : Int)) = j_ := ⟨_, rfl⟩
 first | rw [hji8] at H | simp only [hji8] at H
 revert H
 refine itH_ fun c9b0 H => ?_
 revert H
 refine itH_ fun c10b0 H => ?_
 revert H
 refine itC_ (fun c11 H => ?_) fun c11 H => ?_
 ·
  have c11b0 : decide (200 < a1) = true := decide_eq_true c11
  clear c11
  obtain ⟨ji12, hji12⟩ : ∃ j_ : Int, (Int.tmod (wrap64 ((wrap64 ((wrap64 (s0_1 + 1)) - 1)) + 1)) (s0_0.length : Int)) = j_ := ⟨_, rfl⟩
  first | rw [hji12] at H | simp only [hji12] at H
  revert H
  refine itH_ fun c13b0 H => ?_
  revert H
  refine itH_ fun c14b0 H => ?_
  revert H
  refine itC_ (fun c15 H => ?_) fun c15 H => ?_
  ·
   exact absurd H (by simp)
  have c15b0 := beq_eq_false_iff_ne.mpr c15
  have c15b1 := bne_iff_ne.mpr c15
  simp only [Option.some.injEq, Prod.mk.injEq] at H
  obtain ⟨rfl, rfl⟩ := H
  obtain ⟨ASz16_0, cSz16_0, HGz16, hgz16, HSz16_0⟩ := HI0.out
  have hcz16_0 := cellS80_0 HGz16
  have hcz16_1 := cellS80_1 HGz16
  have hfz16_1 := blk_frozen HGz16 1
  clear HGz16 hgz16
  have p101 : 0 ≤ ((ji8) : Int) := of_decide_eq_true zgglam
  have q101 : (ji8) < (s0_0.length : Int) := of_decide_eq_true zgglam
  obtain ⟨ad101, e101, hx101_0⟩ := Kd.at_int HSz16_0 (ji8) p101 q101
  cases e101
  have hn101_0 : ad101.block ≠ g := Nat.ne_of_lt (Nat.lt_of_lt_of_le zljdjm (IsS80.ge HI0.out))
  replace hx101_0 := pb HB.out hx101_0
  replace hx101_0 := (cell_far (p := ⟨g, 1, none⟩) zpkief (.int .i64 (wrap64 (s0_1 + 1)))).trans hx101_0
  (try have hy101_0 := fun (n_ : Nat) => (show (((w.drewN n_).setCell ⟨g, 1, none⟩ (.int .i64 (wrap64 (s0_1 + 1))))).cell? _ = some _ from hx101_0))
  clear hn101_0
  replace p101 := eq_true p101
  replace q101 := eq_true q101
  have p102 : 0 ≤ ((ji12) : Int) := of_decide_eq_true zgglam
  have q102 : (ji12) < (s0_0.length : Int) := of_decide_eq_true zgglam
  obtain ⟨ad102, e102, hx102_0⟩ := Kd.at_int HSz16_0 (ji12) p102 q102
  obtain rfl : ad101 = ad102 := (by injection e102)
  have hn102_0 : ad101.block ≠ g := Nat.ne_of_lt (Nat.lt_of_lt_of_le (by have := World.block_lt_of_cell? _ _ hx102_0; first | rwa [add_block] at this | exact this) (IsS80.ge HI0.out))
  replace hx102_0 := pb HB.out hx102_0
  replace hx102_0 := (cell_far (p := ⟨g, 1, none⟩) (by first | (rw [add_block]; exact hn102_0) | (show (Addr.add _ _).block ≠ _; rw [add_block]; exact hn102_0) | exact hn102_0) (.int .i64 (wrap64 (s0_1 + 1)))).trans hx102_0
  (try have hy102_0 := fun (n_ : Nat) => (show (((w.drewN n_).setCell ⟨g, 1, none⟩ (.int .i64 (wrap64 (s0_1 + 1))))).cell? _ = some _ from hx102_0))
  clear hn102_0
  replace p102 := eq_true p102
  replace q102 := eq_true q102
  go_enter Tryd.func27, Tryd.ntmps27
  go_wp2
  repeat (go_quiet (fail); try go_wp2)
  go_ret
  exact ⟨by first | rfl | (simp [errW_none, errW_some] <;> rfl) | (simp only [← hji8, ← hji12]; first | rfl | (simp [errW_none, errW_some] <;> rfl)) | (simp [*, errW_none, errW_some] <;> rfl), zhpbib, zicchn, zncgdm⟩
 have c11b0 : decide (200 < a1) = false := decide_eq_false c11
 clear c11
 revert H
 refine itC_ (fun c17 H => ?_) fun c17 H => ?_
 ·
  exact absurd H (by simp)
 have c17b0 := beq_eq_false_iff_ne.mpr c17
 have c17b1 := bne_iff_ne.mpr c17
 simp only [Option.some.injEq, Prod.mk.injEq] at H
 obtain ⟨rfl, rfl⟩ := H
 obtain ⟨ASz18_0, cSz18_0, HGz18, hgz18, HSz18_0⟩ := HI0.out
 have hcz18_0 := cellS80_0 HGz18
 have hcz18_1 := cellS80_1 HGz18
 have hfz18_1 := blk_frozen HGz18 1
 clear HGz18 hgz18
 have p101 : 0 ≤ ((ji8) : Int) := of_decide_eq_true zgglam
 have q101 : (ji8) < (s0_0.length : Int) := of_decide_eq_true zgglam
 obtain ⟨ad101, e101, hx101_0⟩ := Kd.at_int HSz18_0 (ji8) p101 q101
 cases e101
 have hn101_0 : ad101.block ≠ g := Nat.ne_of_lt (Nat.lt_of_lt_of_le zljdjm (IsS80.ge HI0.out))
 replace hx101_0 := pb HB.out hx101_0
 replace hx101_0 := (cell_far (p := ⟨g, 1, none⟩) zpkief (.int .i64 (wrap64 (s0_1 + 1)))).trans hx101_0
 (try have hy101_0 := fun (n_ : Nat) => (show (((w.drewN n_).setCell ⟨g, 1, none⟩ (.int .i64 (wrap64 (s0_1 + 1))))).cell? _ = some _ from hx101_0))
 clear hn101_0
 replace p101 := eq_true p101
 replace q101 := eq_true q101
 go_enter Tryd.func27, Tryd.ntmps27
 go_wp2
 repeat (go_quiet (fail); try go_wp2)
 go_ret
 exact ⟨by first | rfl | (simp [errW_none, errW_some] <;> rfl) | (simp only [← hji8]; first | rfl | (simp [errW_none, errW_some] <;> rfl)) | (simp [*, errW_none, errW_some] <;> rfl), zhpbib, zicchn, zncgdm⟩
def spec_l1Pick.f (s0_0 : List Int) (s0_1 : Int) (l1 : List Int) : Option (Int × Int) := (spec_l1Next.f s0_0 s0_1 (l1.length : Int)).bind fun bt101 => (if 0 ≤ bt101.1 then (if bt101.1 < (l1.length : Int) then (some (rd l1 bt101.1, bt101.2)) else (none)) else (none))
theorem spec_l1Pick.calls (g : Nat) (s0_0 : List Int) (s0_1 : Int) (A1 : Option Addr) (c1 : Nat) (l1 : List Int) (r1 : Int) (r2 : Int) (w0 w : World) (hI : IsS80 w0 w g s0_0 s0_1) (hB : Below w0.heap.size w0 w) (hr1 : Kd.C (Kd.int .i64) w A1 l1.length l1) (hc1 : l1.length ≤ c1) (hf1 : ∀ ad, A1 = some ad → 0 < l1.length → ad.block ≠ g) (h : spec_l1Pick.f s0_0 s0_1 l1 = some (r1, r2)) :
  Calls Tryd.prog 26 #[.pointer (some ⟨g, 0, none⟩), .slice A1 l1.length c1] w fun e w' => e = .returned (.int .i64 r1) ∧ IsS80 w0 w' g s0_0 r2 ∧ Below w0.heap.size w0 w' ∧ KeepBut w w' g none := by
 have HR1 := aa hr1
 have HC1 := aa hc1
 clear hr1 hc1
 have HI0 := aa hI
 have HK := aa (KeepBut.refl w g none)
 have HL := aa hB.size
 clear hI
 have HW0 := aa hB.size
 have HB := aa hB
 clear hB
 have H : ((spec_l1Next.f s0_0 s0_1 (l1.length : Int)).bind fun bt101 => (if 0 ≤ bt101.1 then (if bt101.1 < (l1.length : Int) then (some (rd l1 bt101.1, bt101.2)) else (none)) else (none))) = some (r1, r2) := h
 clear h
 revert H
 refine ob2_ fun t101 t102 A3 H => ?_
 (try dsimp only at H)
 revert H
 refine itH_ fun c4b0 H => ?_
 revert H
 refine itH_ fun c5b0 H => ?_
 simp only [Option.some.injEq, Prod.mk.injEq] at H
 obtain ⟨rfl, rfl⟩ := H
 go_enter Tryd.func26, Tryd.ntmps26
 go_wp2_with (first | (refine gc_ Tryd.func27 (some 9) #[.pointer (some ⟨g, 0, none⟩), .int .i64 (l1.length : Int)] ?_; (with_reducible refine (spec_l1Next.calls g s0_0 s0_1 (l1.length : Int) t101 t102 w0 _ zhpbib zicchn A3.out).mono ?_); rintro e w6 ⟨rfl, hi, hb, hk⟩; refine ⟨_, rfl, ?_⟩; replace HK := aa (KeepBut.trans zncgdm hk (.inl rfl)); replace HB := aa (hb); replace HI0 := aa (hi); (try clear hb hk hi); have p103 : 0 ≤ (t101 : Int) := of_decide_eq_true zgglam; have q103 : t101 < (l1.length : Int) := of_decide_eq_true zgglam; obtain ⟨ad103, e103, hx103_0⟩ := Kd.at_int HR1.out t101 p103 q103; cases e103; replace hx103_0 := keep_cell HK.out hx103_0 (by first | (rw [add_block]; exact hf1 _ rfl (by omega)) | exact hf1 _ rfl (by omega) | exact hf1 ad103 rfl (by omega)); replace p103 := eq_true p103; replace q103 := eq_true q103))
 go_ret
 exact ⟨zlhpib, zhpbib, zicchn, zncgdm⟩
def spec_l1Source.f (l0 : List Int) : Option (List Int × Int) := some (l0, 0)
theorem spec_l1Source.calls (A0 : Option Addr) (c0 : Nat) (l0 : List Int) (r1 : List Int) (r2 : Int) (w0 w : World) (hB : Below w0.heap.size w0 w) (hr0 : Kd.C (Kd.int .u8) w0 A0 l0.length l0) (hc0 : l0.length ≤ c0) (h : spec_l1Source.f l0 = some (r1, r2)) :
  Calls Tryd.prog 47 #[.slice A0 l0.length c0] w fun e w' => ∃ g_ : Nat, e = .returned (.pointer (some ⟨g_, 0, none⟩)) ∧ IsS80 w0 w' g_ r1 r2 ∧ Below w0.heap.size w0 w' ∧ Below w.heap.size w w' := by
 have hu80 := Tryd.underlying80
 have HR0 := aa hr0
 have HC0 := aa hc0
 clear hr0 hc0
 have HBW := aa (Below.refl w.heap.size w)
 have HW0 := aa hB.size
 have HB := aa hB
 clear hB
 have H : (some (l0, 0)) = some (r1, r2) := h
 clear h
 simp only [Option.some.injEq, Prod.mk.injEq] at H
 obtain ⟨rfl, rfl⟩ := H
 go_enter Tryd.func47, Tryd.ntmps47
 go_wp2_with (first | (refine be_ 5 #[.slice A0 l0.length c0, .int .i64 0] 80 ?_; intro gb101 hg w2 hbox hb; have n0_ := aa (below_step HBW.out hb); have n1_ := aa (below_step zjjbob hb); have n2_ := aa (hbox); have n3_ := aa ((zlfkmp : w.heap.size ≤ gb101)); have n4_ := aa ((Nat.le_trans HW0.out (zlfkmp : w.heap.size ≤ gb101) : w0.heap.size ≤ gb101)); clear HBW; clear HB; have HBW := n0_; have HB := n1_; have BK101 := n2_; have GW101 := n3_; have GE101 := n4_; clear n0_ n1_ n2_ n3_ n4_; clear hb hbox hg))
 go_ret
 exact ⟨_, rfl, (show IsS80 w0 _ gb101 l0 0 from ⟨_, _, by (with_reducible repeat (first | refine blk_drewN ?_ _ | refine blk_drew ?_ | refine blk_alloc ?_ _)); exact BK101.out, GE101.out, HR0.out⟩), zkmbdh, zkegoc⟩
def spec_l1Join.f (a0 : ByteArray) (a1 : ByteArray) : Option (ByteArray) := if a0.toList = ([47] : List UInt8) then (if 1 + a1.size ≤ 9223372036854775807 then (some ((⟨#[47]⟩ : ByteArray) ++ a1)) else (none)) else (if a0.size + 1 ≤ 9223372036854775807 then (if (a0 ++ (⟨#[47]⟩ : ByteArray)).size + a1.size ≤ 9223372036854775807 then (some ((a0 ++ (⟨#[47]⟩ : ByteArray)) ++ a1)) else (none)) else (none))
theorem spec_l1Join.calls (a0 : ByteArray) (a1 : ByteArray) (r : ByteArray) (w : World) (h : spec_l1Join.f a0 a1 = some r) :
  Calls Tryd.prog 51 #[.string a0, .string a1] w fun e w' => e = .returned (.string r) ∧ Drawn0 w w' := by
 have H : (if a0.toList = ([47] : List UInt8) then (if 1 + a1.size ≤ 9223372036854775807 then (some ((⟨#[47]⟩ : ByteArray) ++ a1)) else (none)) else (if a0.size + 1 ≤ 9223372036854775807 then (if (a0 ++ (⟨#[47]⟩ : ByteArray)).size + a1.size ≤ 9223372036854775807 then (some ((a0 ++ (⟨#[47]⟩ : ByteArray)) ++ a1)) else (none)) else (none))) = some r := h
 clear h
 revert H
 refine itE_ (fun c3b0 c3b1 H => ?_) fun c3b0 c3b1 H => ?_
 ·
  revert H
  refine itG_ fun c4 H => ?_
  have c4b0 := eq_true c4
  have c4b1 := decide_eq_true c4
  try have c4b2 : (9223372036854775807 < 1 + a1.size) = False := eq_false (Nat.not_lt.2 c4)
  try (have c4b3 := c4b2; simp only [ByteArray.size_append] at c4b3)
  obtain rfl := Option.some.inj H
  go_enter Tryd.func51, Tryd.ntmps51
  go_wp2
  go_ret
  exact ⟨zagbkp, ziajdh⟩
 revert H
 refine itG_ fun c5 H => ?_
 have c5b0 := eq_true c5
 have c5b1 := decide_eq_true c5
 try have c5b2 : (9223372036854775807 < a0.size + 1) = False := eq_false (Nat.not_lt.2 c5)
 try (have c5b3 := c5b2; simp only [ByteArray.size_append] at c5b3)
 revert H
 refine itG_ fun c6 H => ?_
 have c6b0 := eq_true c6
 have c6b1 := decide_eq_true c6
 try have c6b2 : (9223372036854775807 < (a0 ++ (⟨#[47]⟩ : ByteArray)).size + a1.size) = False := eq_false (Nat.not_lt.2 c6)
 try (have c6b3 := c6b2; simp only [ByteArray.size_append] at c6b3)
 obtain rfl := Option.some.inj H
 go_enter Tryd.func51, Tryd.ntmps51
 go_wp2
 go_ret
 exact ⟨zagbkp, ziajdh⟩
def spec_l1Draw.l0 : Nat → ByteArray → Int → List Int → Int → Option (ByteArray × Int)
 | 0, _, _, _, _ => none
 | k + 1, x3, x4, x1000, x1001 => if x4 > 0 then ((some (([(⟨#[97]⟩ : ByteArray), (⟨#[98]⟩ : ByteArray), (⟨#[99]⟩ : ByteArray)] : List ByteArray) : List ByteArray)).bind fun y103 => ((spec_l1Next.f x1000 x1001 3).bind fun bt106 => (if 0 ≤ bt106.1 then (if bt106.1 < (y103.length : Int) then ((spec_l1Join.f x3 (rdOf ByteArray.empty y103 bt106.1)).bind fun t109 => (spec_l1Draw.l0 k t109 (wrap64 (x4 - 1)) x1000 bt106.2)) else (none)) else (none)))) else (some (x3, x1001))
def spec_l1Draw.f (k : Nat) (s0_0 : List Int) (s0_1 : Int) : Option (ByteArray × Int) := (spec_l1Next.f s0_0 s0_1 4).bind fun bt101 => (spec_l1Draw.l0 k (⟨#[47]⟩ : ByteArray) bt101.1 s0_0 bt101.2)
theorem spec_l1Draw.mono_l : ∀ k, (∀ y0 y1 y2 y3, LeO (spec_l1Draw.l0 k y0 y1 y2 y3) (spec_l1Draw.l0 (k + 1) y0 y1 y2 y3))
 | 0 => fun _ _ _ _ r h => by simp [spec_l1Draw.l0] at h
 | k + 1 => by
  have ih0 := spec_l1Draw.mono_l k
  ·
   intro y0 y1 y2 y3
   unfold spec_l1Draw.l0
   with_reducible repeat' first | exact ih0 _ _ _ _ | exact LeO.refl _ | exact LeO.none _ | refine LeO.ite ?_ ?_ | refine LeO.bind ?_ (fun _ => ?_)
theorem spec_l1Draw.mono : ∀ a0 a1 k, LeO (spec_l1Draw.f k a0 a1) (spec_l1Draw.f (k + 1) a0 a1) := by
 intro a0 a1 k
 have ih0 := spec_l1Draw.mono_l k
 unfold spec_l1Draw.f
 with_reducible repeat' first | exact ih0 _ _ _ _ | exact LeO.refl _ | exact LeO.none _ | refine LeO.ite ?_ ?_ | refine LeO.bind ?_ (fun _ => ?_)
theorem spec_l1Draw.calls (k : Nat) (g : Nat) (s0_0 : List Int) (s0_1 : Int) (r1 : ByteArray) (r2 : Int) (w0 w : World) (hI : IsS80 w0 w g s0_0 s0_1) (hB : Below w0.heap.size w0 w) (h : spec_l1Draw.f k s0_0 s0_1 = some (r1, r2)) :
  Calls Tryd.prog 73 #[.pointer (some ⟨g, 0, none⟩)] w fun e w' => e = .returned (.string r1) ∧ IsS80 w0 w' g s0_0 r2 ∧ Below w0.heap.size w0 w' ∧ KeepBut w w' g none := by
 have HI0 := aa hI
 have HK := aa (KeepBut.refl w g none)
 have HL := aa hB.size
 clear hI
 have HW0 := aa hB.size
 have HB := aa hB
 clear hB
 have H : ((spec_l1Next.f s0_0 s0_1 4).bind fun bt101 => (spec_l1Draw.l0 k (⟨#[47]⟩ : ByteArray) bt101.1 s0_0 bt101.2)) = some (r1, r2) := h
 clear h
 revert H
 refine ob2_ fun t101 t102 A2 H => ?_
 (try dsimp only at H)
 have H' := aa H
 clear H
 go_enter Tryd.func73, Tryd.ntmps73
 go_wp2_with (first | (refine gc_ Tryd.func27 (some 6) #[.pointer (some ⟨g, 0, none⟩), .int .i64 4] ?_; (with_reducible refine (spec_l1Next.calls g s0_0 s0_1 4 t101 t102 w0 _ zhpbib zicchn A2.out).mono ?_); rintro e w3 ⟨rfl, hi, hb, hk⟩; refine ⟨_, rfl, ?_⟩; replace HK := aa (KeepBut.trans zncgdm hk (.inl rfl)); replace HB := aa (hb); replace HI0 := aa (hi); (try clear hb hk hi)))
 go_loopg [3, 4] k (fun kq v3 v4 w' => ∃ (x3_1 : ByteArray) (x4_1 : Int) (x1001_1 : Int), v3 = .string x3_1 ∧ v4 = .int .i64 x4_1 ∧ Aside0 (spec_l1Draw.l0 kq x3_1 x4_1 s0_0 x1001_1 = some (r1, r2)) ∧ Aside0 (kq ≤ k) ∧ Aside0 (IsS80 w0 w' g s0_0 x1001_1) ∧ Aside0 (KeepBut w w' g none) ∧ Aside0 (Below w0.heap.size w0 w'))
 case atStart => exact ⟨((⟨#[47]⟩ : ByteArray)), (t101), (t102), zagbkp, zagbkp, H', ⟨Nat.le_refl _⟩, ⟨zhpbib⟩, ⟨zncgdm⟩, ⟨zicchn⟩⟩
 case round =>
  clear H'
  try clear p2
  obtain ⟨x3_1, x4_1, x1001_1, rfl, rfl, HA, HK1, HI0, HK, HB⟩ := hrel
  cases gk with
  | zero => exact absurd HA.out (by simp [spec_l1Draw.l0])
  | succ k1 =>
   have H := HA.out
   clear HA
   simp only [spec_l1Draw.l0] at H
   revert H
   refine itC_ (fun c4 H => ?_) fun c4 H => ?_
   ·
    have c4b0 : decide (0 < x4_1) = true := decide_eq_true c4
    clear c4
    revert H
    refine obl_ fun y103 Ny103 H => ?_
    revert H
    refine ob2_ fun t106 t107 A5 H => ?_
    (try dsimp only at H)
    revert H
    refine itH_ fun c6b0 H => ?_
    revert H
    refine itH_ fun c7b0 H => ?_
    revert H
    refine obs_ fun t109 A8 H => ?_
    have H' := aa H
    clear H
    go_wp2_with (first | ((with_reducible refine gate_dst (N := 12) rfl ?_); refine Kd.R_lit Kd.string _ 9 ?hg (N := 12) ?hd (xs := ([(⟨#[97]⟩ : ByteArray), (⟨#[98]⟩ : ByteArray), (⟨#[99]⟩ : ByteArray)] : List ByteArray)) (inner := [.string (⟨#[97]⟩ : ByteArray), .string (⟨#[98]⟩ : ByteArray), .string (⟨#[99]⟩ : ByteArray)]) (ok := fun _ => True) (okp := fun _ => True) ?hr ?hp (fun _ hk => hk) trivial (Below.refl _ _) (Nat.le_refl _) (by simp) ?_; (case hd => rfl); (case hg => rfl); (case hr => exact zhlgcp); (case hp => exact (Reps.one (show Kd.M Kd.string _ _ _ (⟨#[97]⟩ : ByteArray) [.string (⟨#[97]⟩ : ByteArray)] from rfl) (Reps.one (show Kd.M Kd.string _ _ _ (⟨#[98]⟩ : ByteArray) [.string (⟨#[98]⟩ : ByteArray)] from rfl) (Reps.one (show Kd.M Kd.string _ _ _ (⟨#[99]⟩ : ByteArray) [.string (⟨#[99]⟩ : ByteArray)] from rfl) (Reps.none _ _))))); intro v104 w9 ho10 hb hg_ hnew_; clear hg_ hnew_; (first | rw [← Ny103.out] at ho10 | (simp only [Int.reduceToNat] at ho10; rw [← Ny103.out] at ho10)); have n0_ := aa (Kd.R_lower ho10 (keep_size (w := w) (g := g) (row := none) zncgdm)); have n1_ := aa (IsS80.below zhpbib hb); have n2_ := aa (KeepBut.trans zncgdm (KeepBut.of_below hb g none) (.inl rfl)); have n3_ := aa (below_step zicchn hb); clear HI0; clear HK; clear HB; have HO105 := n0_; have HI0 := n1_; have HK := n2_; have HB := n3_; clear n0_ n1_ n2_ n3_; clear hb ho10) | (refine gc_ Tryd.func27 (some 14) #[.pointer (some ⟨g, 0, none⟩), .int .i64 3] ?_; (with_reducible refine (spec_l1Next.calls g s0_0 x1001_1 3 t106 t107 w0 _ zhpbib zicchn A5.out).mono ?_); rintro e w11 ⟨rfl, hi, hb, hk⟩; refine ⟨_, rfl, ?_⟩; replace HO105 := aa (Kd.R_mono (Kd.R_keep (IsS80.apart (zhpbib : IsS80 w0 _ g s0_0 x1001_1) (zcaken HO105.out) (by decide)) hk (fun _ h => h.2)) (fun _ h => h.1)); replace HK := aa (KeepBut.trans zncgdm hk (.inl rfl)); replace HB := aa (hb); replace HI0 := aa (hi); (try clear hb hk hi); obtain ⟨Ao12, co12, eo12⟩ := Kd.R_slice HO105.out; subst eo12; have p108 : 0 ≤ (t106 : Int) := of_decide_eq_true zgglam; have q108 : t106 < (y103.length : Int) := of_decide_eq_true zgglam; obtain ⟨ad108, e108, hx108_0⟩ := Kd.at_string (Kd.R_reads' HO105.out).2.2 t106 p108 q108; cases e108; replace p108 := eq_true p108; replace q108 := eq_true q108) | (refine gc_ Tryd.func51 (some 17) #[.string x3_1, .string (rdOf ByteArray.empty y103 t106)] ?_; (with_reducible refine (spec_l1Join.calls x3_1 (rdOf ByteArray.empty y103 t106) t109 _ A8.out).mono ?_); rintro e w' ⟨rfl, ⟨nd, rfl⟩⟩; refine ⟨_, rfl, ?_⟩))
    go_roundg k1
    case measure => have := HK1.out; omega
    case rel => exact ⟨(t109), (wrap64 (x4_1 - 1)), (t107), zagbkp, zagbkp, H', ⟨by have := HK1.out; omega⟩, ⟨zhpbib⟩, ⟨zncgdm⟩, ⟨zicchn⟩⟩
   ·
    have c4b0 : decide (0 < x4_1) = false := decide_eq_false c4
    clear c4
    simp only [Option.some.injEq, Prod.mk.injEq] at H
    obtain ⟨rfl, rfl⟩ := H
    go_wp2
    go_ret
    exact ⟨zlhpib, zhpbib, zicchn, zncgdm⟩
def spec_l1Bent.f (k : Nat) (s0_0 : List Int) (s0_1 : Int) : Option (ByteArray × Int) := (spec_l1Draw.f k s0_0 s0_1).bind fun bt101 => ((spec_l1Next.f s0_0 bt101.2 10).bind fun bt103 => (if bt103.1 = 0 then (if bt101.1.size + 1 ≤ 9223372036854775807 then (some (bt101.1 ++ (⟨#[47]⟩ : ByteArray), bt103.2)) else (none)) else (if bt103.1 = 1 then ((some (([(⟨#[]⟩ : ByteArray), (⟨#[97]⟩ : ByteArray), (⟨#[47, 47]⟩ : ByteArray), (⟨#[47, 65]⟩ : ByteArray), (⟨#[47, 97, 47, 98, 47, 99, 47, 100, 47, 101]⟩ : ByteArray), (⟨#[47, 97, 98, 99, 100, 101, 102, 103, 104, 105]⟩ : ByteArray), (⟨#[47, 97, 97, 97, 97, 97, 97, 97, 97, 47, 97, 97, 97, 97, 97, 97, 97, 97, 47, 97, 97, 97, 97, 97, 97]⟩ : ByteArray)] : List ByteArray) : List ByteArray)).bind fun y105 => ((spec_l1Next.f s0_0 bt103.2 7).bind fun bt108 => (if 0 ≤ bt108.1 then (if bt108.1 < (y105.length : Int) then (some (rdOf ByteArray.empty y105 bt108.1, bt108.2)) else (none)) else (none)))) else (some (bt101.1, bt103.2)))))
theorem spec_l1Bent.mono : ∀ a0 a1 k, LeO (spec_l1Bent.f k a0 a1) (spec_l1Bent.f (k + 1) a0 a1) := by
 intro a0 a1 k
 unfold spec_l1Bent.f
 with_reducible repeat' first | exact spec_l1Draw.mono _ _ _ | exact LeO.refl _ | exact LeO.none _ | refine LeO.ite ?_ ?_ | refine LeO.bind ?_ (fun _ => ?_)
theorem spec_l1Bent.calls (k : Nat) (g : Nat) (s0_0 : List Int) (s0_1 : Int) (r1 : ByteArray) (r2 : Int) (w0 w : World) (hI : IsS80 w0 w g s0_0 s0_1) (hB : Below w0.heap.size w0 w) (h : spec_l1Bent.f k s0_0 s0_1 = some (r1, r2)) :
  Calls Tryd.prog 49 #[.pointer (some ⟨g, 0, none⟩)] w fun e w' => e = .returned (.string r1) ∧ IsS80 w0 w' g s0_0 r2 ∧ Below w0.heap.size w0 w' ∧ KeepBut w w' g none := by
 have HI0 := aa hI
 have HK := aa (KeepBut.refl w g none)
 have HL := aa hB.size
 clear hI
 have HW0 := aa hB.size
 have HB := aa hB
 clear hB
 have H : ((spec_l1Draw.f k s0_0 s0_1).bind fun bt101 => ((spec_l1Next.f s0_0 bt101.2 10).bind fun bt103 => (if bt103.1 = 0 then (if bt101.1.size + 1 ≤ 9223372036854775807 then (some (bt101.1 ++ (⟨#[47]⟩ : ByteArray), bt103.2)) else (none)) else (if bt103.1 = 1 then ((some (([(⟨#[]⟩ : ByteArray), (⟨#[97]⟩ : ByteArray), (⟨#[47, 47]⟩ : ByteArray), (⟨#[47, 65]⟩ : ByteArray), (⟨#[47, 97, 47, 98, 47, 99, 47, 100, 47, 101]⟩ : ByteArray), (⟨#[47, 97, 98, 99, 100, 101, 102, 103, 104, 105]⟩ : ByteArray), (⟨#[47, 97, 97, 97, 97, 97, 97, 97, 97, 47, 97, 97, 97, 97, 97, 97, 97, 97, 47, 97, 97, 97, 97, 97, 97]⟩ : ByteArray)] : List ByteArray) : List ByteArray)).bind fun y105 => ((spec_l1Next.f s0_0 bt103.2 7).bind fun bt108 => (if 0 ≤ bt108.1 then (if bt108.1 < (y105.length : Int) then (some (rdOf ByteArray.empty y105 bt108.1, bt108.2)) else (none)) else (none)))) else (some (bt101.1, bt103.2)))))) = some (r1, r2) := h
 clear h
 revert H
 refine ob2_ fun t101 t102 A2 H => ?_
 (try dsimp only at H)
 revert H
 refine ob2_ fun t103 t104 A3 H => ?_
 (try dsimp only at H)
 revert H
 refine itE_ (fun c4b0 c4b1 H => ?_) fun c4b0 c4b1 H => ?_
 ·
  revert H
  refine itG_ fun c5 H => ?_
  have c5b0 := eq_true c5
  have c5b1 := decide_eq_true c5
  try have c5b2 : (9223372036854775807 < t101.size + 1) = False := eq_false (Nat.not_lt.2 c5)
  try (have c5b3 := c5b2; simp only [ByteArray.size_append] at c5b3)
  simp only [Option.some.injEq, Prod.mk.injEq] at H
  obtain ⟨rfl, rfl⟩ := H
  go_enter Tryd.func49, Tryd.ntmps49
  go_wp2_with (first | (refine gc_ Tryd.func73 (some 5) #[.pointer (some ⟨g, 0, none⟩)] ?_; (with_reducible refine (spec_l1Draw.calls k g s0_0 s0_1 t101 t102 w0 _ zhpbib zicchn A2.out).mono ?_); rintro e w6 ⟨rfl, hi, hb, hk⟩; refine ⟨_, rfl, ?_⟩; replace HK := aa (KeepBut.trans zncgdm hk (.inl rfl)); replace HB := aa (hb); replace HI0 := aa (hi); (try clear hb hk hi)) | (refine gc_ Tryd.func27 (some 7) #[.pointer (some ⟨g, 0, none⟩), .int .i64 10] ?_; (with_reducible refine (spec_l1Next.calls g s0_0 t102 10 t103 t104 w0 _ zhpbib zicchn A3.out).mono ?_); rintro e w7 ⟨rfl, hi, hb, hk⟩; refine ⟨_, rfl, ?_⟩; replace HK := aa (KeepBut.trans zncgdm hk (.inl rfl)); replace HB := aa (hb); replace HI0 := aa (hi); (try clear hb hk hi)))
  go_ret
  exact ⟨zlhpib, zhpbib, zicchn, zncgdm⟩
 revert H
 refine itE_ (fun c8b0 c8b1 H => ?_) fun c8b0 c8b1 H => ?_
 ·
  revert H
  refine obl_ fun y105 Ny105 H => ?_
  revert H
  refine ob2_ fun t108 t109 A9 H => ?_
  (try dsimp only at H)
  revert H
  refine itH_ fun c10b0 H => ?_
  revert H
  refine itH_ fun c11b0 H => ?_
  simp only [Option.some.injEq, Prod.mk.injEq] at H
  obtain ⟨rfl, rfl⟩ := H
  go_enter Tryd.func49, Tryd.ntmps49
  go_wp2_with (first | (refine gc_ Tryd.func73 (some 5) #[.pointer (some ⟨g, 0, none⟩)] ?_; (with_reducible refine (spec_l1Draw.calls k g s0_0 s0_1 t101 t102 w0 _ zhpbib zicchn A2.out).mono ?_); rintro e w12 ⟨rfl, hi, hb, hk⟩; refine ⟨_, rfl, ?_⟩; replace HK := aa (KeepBut.trans zncgdm hk (.inl rfl)); replace HB := aa (hb); replace HI0 := aa (hi); (try clear hb hk hi)) | (refine gc_ Tryd.func27 (some 7) #[.pointer (some ⟨g, 0, none⟩), .int .i64 10] ?_; (with_reducible refine (spec_l1Next.calls g s0_0 t102 10 t103 t104 w0 _ zhpbib zicchn A3.out).mono ?_); rintro e w13 ⟨rfl, hi, hb, hk⟩; refine ⟨_, rfl, ?_⟩; replace HK := aa (KeepBut.trans zncgdm hk (.inl rfl)); replace HB := aa (hb); replace HI0 := aa (hi); (try clear hb hk hi)) | ((with_reducible refine gate_dst (N := 14) rfl ?_); refine Kd.R_lit Kd.string _ 9 ?hg (N := 14) ?hd (xs := ([(⟨#[]⟩ : ByteArray), (⟨#[97]⟩ : ByteArray), (⟨#[47, 47]⟩ : ByteArray), (⟨#[47, 65]⟩ : ByteArray), (⟨#[47, 97, 47, 98, 47, 99, 47, 100, 47, 101]⟩ : ByteArray), (⟨#[47, 97, 98, 99, 100, 101, 102, 103, 104, 105]⟩ : ByteArray), (⟨#[47, 97, 97, 97, 97, 97, 97, 97, 97, 47, 97, 97, 97, 97, 97, 97, 97, 97, 47, 97, 97, 97, 97, 97, 97]⟩ : ByteArray)] : List ByteArray)) (inner := [.string (⟨#[]⟩ : ByteArray), .string (⟨#[97]⟩ : ByteArray), .string (⟨#[47, 47]⟩ : ByteArray), .string (⟨#[47, 65]⟩ : ByteArray), .string (⟨#[47, 97, 47, 98, 47, 99, 47, 100, 47, 101]⟩ : ByteArray), .string (⟨#[47, 97, 98, 99, 100, 101, 102, 103, 104, 105]⟩ : ByteArray), .string (⟨#[47, 97, 97, 97, 97, 97, 97, 97, 97, 47, 97, 97, 97, 97, 97, 97, 97, 97, 47, 97, 97, 97, 97, 97, 97]⟩ : ByteArray)]) (ok := fun _ => True) (okp := fun _ => True) ?hr ?hp (fun _ hk => hk) trivial (Below.refl _ _) (Nat.le_refl _) (by simp) ?_; (case hd => rfl); (case hg => rfl); (case hr => exact zhlgcp); (case hp => exact (Reps.one (show Kd.M Kd.string _ _ _ (⟨#[]⟩ : ByteArray) [.string (⟨#[]⟩ : ByteArray)] from rfl) (Reps.one (show Kd.M Kd.string _ _ _ (⟨#[97]⟩ : ByteArray) [.string (⟨#[97]⟩ : ByteArray)] from rfl) (Reps.one (show Kd.M Kd.string _ _ _ (⟨#[47, 47]⟩ : ByteArray) [.string (⟨#[47, 47]⟩ : ByteArray)] from rfl) (Reps.one (show Kd.M Kd.string _ _ _ (⟨#[47, 65]⟩ : ByteArray) [.string (⟨#[47, 65]⟩ : ByteArray)] from rfl) (Reps.one (show Kd.M Kd.string _ _ _ (⟨#[47, 97, 47, 98, 47, 99, 47, 100, 47, 101]⟩ : ByteArray) [.string (⟨#[47, 97, 47, 98, 47, 99, 47, 100, 47, 101]⟩ : ByteArray)] from rfl) (Reps.one (show Kd.M Kd.string _ _ _ (⟨#[47, 97, 98, 99, 100, 101, 102, 103, 104, 105]⟩ : ByteArray) [.string (⟨#[47, 97, 98, 99, 100, 101, 102, 103, 104, 105]⟩ : ByteArray)] from rfl) (Reps.one (show Kd.M Kd.string _ _ _ (⟨#[47, 97, 97, 97, 97, 97, 97, 97, 97, 47, 97, 97, 97, 97, 97, 97, 97, 97, 47, 97, 97, 97, 97, 97, 97]⟩ : ByteArray) [.string (⟨#[47, 97, 97, 97, 97, 97, 97, 97, 97, 47, 97, 97, 97, 97, 97, 97, 97, 97, 47, 97, 97, 97, 97, 97, 97]⟩ : ByteArray)] from rfl) (Reps.none _ _))))))))); intro v106 w14 ho15 hb hg_ hnew_; clear hg_ hnew_; (first | rw [← Ny105.out] at ho15 | (simp only [Int.reduceToNat] at ho15; rw [← Ny105.out] at ho15)); have n0_ := aa (Kd.R_lower ho15 (keep_size (w := w) (g := g) (row := none) zncgdm)); have n1_ := aa (IsS80.below zhpbib hb); have n2_ := aa (KeepBut.trans zncgdm (KeepBut.of_below hb g none) (.inl rfl)); have n3_ := aa (below_step zicchn hb); clear HI0; clear HK; clear HB; have HO107 := n0_; have HI0 := n1_; have HK := n2_; have HB := n3_; clear n0_ n1_ n2_ n3_; clear hb ho15) | (refine gc_ Tryd.func27 (some 16) #[.pointer (some ⟨g, 0, none⟩), .int .i64 7] ?_; (with_reducible refine (spec_l1Next.calls g s0_0 t104 7 t108 t109 w0 _ zhpbib zicchn A9.out).mono ?_); rintro e w16 ⟨rfl, hi, hb, hk⟩; refine ⟨_, rfl, ?_⟩; replace HO107 := aa (Kd.R_mono (Kd.R_keep (IsS80.apart (zhpbib : IsS80 w0 _ g s0_0 t104) (zcaken HO107.out) (by decide)) hk (fun _ h => h.2)) (fun _ h => h.1)); replace HK := aa (KeepBut.trans zncgdm hk (.inl rfl)); replace HB := aa (hb); replace HI0 := aa (hi); (try clear hb hk hi); obtain ⟨Ao17, co17, eo17⟩ := Kd.R_slice HO107.out; subst eo17; have p110 : 0 ≤ (t108 : Int) := of_decide_eq_true zgglam; have q110 : t108 < (y105.length : Int) := of_decide_eq_true zgglam; obtain ⟨ad110, e110, hx110_0⟩ := Kd.at_string (Kd.R_reads' HO107.out).2.2 t108 p110 q110; cases e110; replace p110 := eq_true p110; replace q110 := eq_true q110))
  go_ret
  exact ⟨zlhpib, zhpbib, zicchn, zncgdm⟩
 simp only [Option.some.injEq, Prod.mk.injEq] at H
 obtain ⟨rfl, rfl⟩ := H
 go_enter Tryd.func49, Tryd.ntmps49
 go_wp2_with (first | (refine gc_ Tryd.func73 (some 5) #[.pointer (some ⟨g, 0, none⟩)] ?_; (with_reducible refine (spec_l1Draw.calls k g s0_0 s0_1 t101 t102 w0 _ zhpbib zicchn A2.out).mono ?_); rintro e w18 ⟨rfl, hi, hb, hk⟩; refine ⟨_, rfl, ?_⟩; replace HK := aa (KeepBut.trans zncgdm hk (.inl rfl)); replace HB := aa (hb); replace HI0 := aa (hi); (try clear hb hk hi)) | (refine gc_ Tryd.func27 (some 7) #[.pointer (some ⟨g, 0, none⟩), .int .i64 10] ?_; (with_reducible refine (spec_l1Next.calls g s0_0 t102 10 t103 t104 w0 _ zhpbib zicchn A3.out).mono ?_); rintro e w19 ⟨rfl, hi, hb, hk⟩; refine ⟨_, rfl, ?_⟩; replace HK := aa (KeepBut.trans zncgdm hk (.inl rfl)); replace HB := aa (hb); replace HI0 := aa (hi); (try clear hb hk hi)))
 go_ret
 exact ⟨zlhpib, zhpbib, zicchn, zncgdm⟩
def spec_l1Chance.f (s0_0 : List Int) (s0_1 : Int) (a1 : Int) : Option (Bool × Int) := (spec_l1Next.f s0_0 s0_1 a1).bind fun bt101 => (some ((bt101.1 == 0), bt101.2))
theorem spec_l1Chance.calls (g : Nat) (s0_0 : List Int) (s0_1 : Int) (a1 : Int) (r1 : Bool) (r2 : Int) (w0 w : World) (hI : IsS80 w0 w g s0_0 s0_1) (hB : Below w0.heap.size w0 w) (h : spec_l1Chance.f s0_0 s0_1 a1 = some (r1, r2)) :
  Calls Tryd.prog 50 #[.pointer (some ⟨g, 0, none⟩), .int .i64 a1] w fun e w' => e = .returned (.bool r1) ∧ IsS80 w0 w' g s0_0 r2 ∧ Below w0.heap.size w0 w' ∧ KeepBut w w' g none := by
 have HI0 := aa hI
 have HK := aa (KeepBut.refl w g none)
 have HL := aa hB.size
 clear hI
 have HW0 := aa hB.size
 have HB := aa hB
 clear hB
 have H : ((spec_l1Next.f s0_0 s0_1 a1).bind fun bt101 => (some ((bt101.1 == 0), bt101.2))) = some (r1, r2) := h
 clear h
 revert H
 refine ob2_ fun t101 t102 A3 H => ?_
 (try dsimp only at H)
 simp only [Option.some.injEq, Prod.mk.injEq] at H
 obtain ⟨rfl, rfl⟩ := H
 go_enter Tryd.func50, Tryd.ntmps50
 go_wp2_with (first | (refine gc_ Tryd.func27 (some 7) #[.pointer (some ⟨g, 0, none⟩), .int .i64 a1] ?_; (with_reducible refine (spec_l1Next.calls g s0_0 s0_1 a1 t101 t102 w0 _ zhpbib zicchn A3.out).mono ?_); rintro e w4 ⟨rfl, hi, hb, hk⟩; refine ⟨_, rfl, ?_⟩; replace HK := aa (KeepBut.trans zncgdm hk (.inl rfl)); replace HB := aa (hb); replace HI0 := aa (hi); (try clear hb hk hi)))
 go_ret
 exact ⟨zlhpib, zhpbib, zicchn, zncgdm⟩
def spec_l2Bad.f (a0 : Int) : Option (Int × ByteArray × (List (S32))) := some (a0, (⟨#[]⟩ : ByteArray), ([] : List (S32)))
theorem spec_l2Bad.calls (a0 : Int) (r1 : Int) (r2 : ByteArray) (r3 : List (S32)) (w : World) (h : spec_l2Bad.f a0 = some (r1, r2, r3)) :
  Calls Tryd.prog 34 #[.int .i64 a0] w fun e w' => ∃ v2_ : Value, e = .returned (.agg #[.int .i64 r1, .string r2, v2_]) ∧ Kd.R k32 32 w' w.heap.size (fun _ => True) v2_ r3 ∧ Below w.heap.size w w' := by
 have hu28 := Tryd.underlying28
 have HB := aa (Below.refl w.heap.size w)
 have H : (some (a0, (⟨#[]⟩ : ByteArray), ([] : List (S32)))) = some (r1, r2, r3) := h
 clear h
 simp only [Option.some.injEq, Prod.mk.injEq] at H
 obtain ⟨rfl, rfl, rfl⟩ := H
 go_enter Tryd.func34, Tryd.ntmps34
 go_wp2_with (first | (refine be_ 2 #[.int .i64 0, .string (⟨#[]⟩ : ByteArray), .slice none 0 0] 28 ?_; intro gb101 hg w2 hbox hb; have n0_ := aa (below_step zjjbob hb); have n1_ := aa (hbox); have n2_ := aa ((zkpfjp : w.heap.size ≤ gb101)); have n3_ := aa ((zkpfjp : w.heap.size ≤ gb101)); clear HB; have HB := n0_; have BK101 := n1_; have GW101 := n2_; have GE101 := n3_; clear n0_ n1_ n2_ n3_; clear hb hbox hg; obtain ⟨hcz3_0, hcz3_1, hcz3_2, hfz3_0, hfz3_1, hfz3_2⟩ := blk3_ BK101.out))
 refine bodyPost_ret (results_cell_row rfl _ _ gb101 28 #[.int .i64 a0, .string (⟨#[]⟩ : ByteArray), .slice none 0 0] (0, 0) _ rfl (by (with_reducible repeat (first | refine blk_drewN ?_ _ | refine blk_drew ?_ | refine blk_alloc ?_ _)); refine blk_put (cs := #[.int .i64 a0, .string (⟨#[]⟩ : ByteArray), .slice none 0 0]) ?_ 2 _ rfl; (with_reducible repeat (first | refine blk_drewN ?_ _ | refine blk_drew ?_ | refine blk_alloc ?_ _)); refine blk_put (cs := #[.int .i64 a0, .string (⟨#[]⟩ : ByteArray), .slice none 0 0]) ?_ 1 _ rfl; (with_reducible repeat (first | refine blk_drewN ?_ _ | refine blk_drew ?_ | refine blk_alloc ?_ _)); refine blk_put (cs := #[.int .i64 0, .string (⟨#[]⟩ : ByteArray), .slice none 0 0]) ?_ 0 _ rfl; (with_reducible repeat (first | refine blk_drewN ?_ _ | refine blk_drew ?_ | refine blk_alloc ?_ _)); exact BK101.out) Tryd.underlying28 rfl (by kernel_rfl)) rfl ?_
 exact ⟨_, zlhpib, zhijhk, zkmbdh⟩
def spec_l1In.f (a0 : Int) (a1 : Int) (a2 : Int) : Option (Bool) := if a0 ≥ a1 then (some (decide (a0 ≤ a2))) else (some false)
theorem spec_l1In.calls (a0 : Int) (a1 : Int) (a2 : Int) (r : Bool) (w : World) (h : spec_l1In.f a0 a1 a2 = some r) :
  Calls Tryd.prog 57 #[.int .i64 a0, .int .i64 a1, .int .i64 a2] w fun e w' => e = .returned (.bool r) ∧ Drawn0 w w' := by
 have H : (if a0 ≥ a1 then (some (decide (a0 ≤ a2))) else (some false)) = some r := h
 clear h
 revert H
 refine itC_ (fun c4 H => ?_) fun c4 H => ?_
 ·
  have c4b0 : decide (a1 ≤ a0) = true := decide_eq_true c4
  clear c4
  obtain rfl := Option.some.inj H
  go_enter Tryd.func57, Tryd.ntmps57
  go_wp2
  go_ret
  exact ⟨zagbkp, ziajdh⟩
 have c4b0 : decide (a1 ≤ a0) = false := decide_eq_false c4
 clear c4
 obtain rfl := Option.some.inj H
 go_enter Tryd.func57, Tryd.ntmps57
 go_wp2
 go_ret
 exact ⟨zagbkp, ziajdh⟩
def spec_l2Data.f (a0 : Int) : Option (Bool) := (spec_l1In.f a0 0 9999).bind fun t101 => (some t101)
theorem spec_l2Data.calls (a0 : Int) (r : Bool) (w : World) (h : spec_l2Data.f a0 = some r) :
  Calls Tryd.prog 63 #[.int .i64 a0] w fun e w' => e = .returned (.bool r) ∧ Drawn0 w w' := by
 have H : ((spec_l1In.f a0 0 9999).bind fun t101 => (some t101)) = some r := h
 clear h
 revert H
 refine obs_ fun t101 A2 H => ?_
 obtain rfl := Option.some.inj H
 go_enter Tryd.func63, Tryd.ntmps63
 go_wp2_with (first | (refine gc_ Tryd.func57 (some 4) #[.int .i64 a0, .int .i64 0, .int .i64 9999] ?_; (with_reducible refine (spec_l1In.calls a0 0 9999 t101 _ A2.out).mono ?_); rintro e w' ⟨rfl, ⟨nd, rfl⟩⟩; refine ⟨_, rfl, ?_⟩))
 go_ret
 exact ⟨zagbkp, ziajdh⟩
def spec_l2At.l0 : Nat → List (S32) → ByteArray → Int → Option (Int)
 | 0, _, _, _ => none
 | k + 1, x0, x1, x5 => if x5 < (x0.length : Int) then (if 0 ≤ x5 then (if ((rd_T32 x0 x5).f0).toList = x1.toList then (some x5) else (spec_l2At.l0 k x0 x1 (wrap64 (x5 + 1)))) else (none)) else (some (-1))
def spec_l2At.f (k : Nat) (l0 : List (S32)) (a1 : ByteArray) : Option (Int) := spec_l2At.l0 k l0 a1 0
theorem spec_l2At.mono_l : ∀ k, (∀ y0 y1 y2, LeO (spec_l2At.l0 k y0 y1 y2) (spec_l2At.l0 (k + 1) y0 y1 y2))
 | 0 => fun _ _ _ r h => by simp [spec_l2At.l0] at h
 | k + 1 => by
  have ih0 := spec_l2At.mono_l k
  ·
   intro y0 y1 y2
   unfold spec_l2At.l0
   with_reducible repeat' first | exact ih0 _ _ _ | exact LeO.refl _ | exact LeO.none _ | refine LeO.ite ?_ ?_ | refine LeO.bind ?_ (fun _ => ?_)
theorem spec_l2At.mono : ∀ a0 a1 k, LeO (spec_l2At.f k a0 a1) (spec_l2At.f (k + 1) a0 a1) := by
 intro a0 a1 k
 have ih0 := spec_l2At.mono_l k
 unfold spec_l2At.f
 with_reducible repeat' first | exact ih0 _ _ _ | exact LeO.refl _ | exact LeO.none _ | refine LeO.ite ?_ ?_ | refine LeO.bind ?_ (fun _ => ?_)
theorem spec_l2At.calls (k : Nat) (A0 : Option Addr) (c0 : Nat) (l0 : List (S32)) (a1 : ByteArray) (r : Int) (w : World) (hr0 : Kd.C k32 w A0 l0.length l0) (hc0 : l0.length ≤ c0) (h : spec_l2At.f k l0 a1 = some r) :
  Calls Tryd.prog 64 #[.slice A0 l0.length c0, .string a1] w fun e w' => e = .returned (.int .i64 r) ∧ Drawn0 w w' := by
 have HR0 := aa hr0
 have HC0 := aa hc0
 clear hr0 hc0
 have H : (spec_l2At.l0 k l0 a1 0) = some r := h
 clear h
 have H' := aa H
 clear H
 go_enter Tryd.func64, Tryd.ntmps64
 go_wp2
 go_loopg [5] k (fun kq v5 w' => ∃ (x5_1 : Int), v5 = .int .i64 x5_1 ∧ Aside0 (spec_l2At.l0 kq l0 a1 x5_1 = some r) ∧ Aside0 (kq ≤ k) ∧ Drawn0 w w')
 case atStart => exact ⟨(0), zagbkp, H', ⟨Nat.le_refl _⟩, ziajdh⟩
 case round =>
  clear H'
  try clear p2
  obtain ⟨x5_1, rfl, HA, HK1, ⟨m1, rfl⟩⟩ := hrel
  cases gk with
  | zero => exact absurd HA.out (by simp [spec_l2At.l0])
  | succ k1 =>
   have H := HA.out
   clear HA
   simp only [spec_l2At.l0] at H
   revert H
   refine itD_ (fun c3b0 H => ?_) fun c3b0 H => ?_
   ·
    revert H
    refine itH_ fun c4b0 H => ?_
    revert H
    refine itE_ (fun c5b0 c5b1 H => ?_) fun c5b0 c5b1 H => ?_
    ·
     obtain rfl := Option.some.inj H
     have p101 : 0 ≤ (x5_1 : Int) := of_decide_eq_true zgglam
     have q101 : x5_1 < (l0.length : Int) := of_decide_eq_true zgglam
     obtain ⟨ad101, e101, hx101_0, hx101_1, hx101_2, hx101_3, hx101_4⟩ := at_T32 HR0.out x5_1 p101 q101
     cases e101
     replace p101 := eq_true p101
     replace q101 := eq_true q101
     go_wp2
     go_ret
     exact ⟨zagbkp, ziajdh⟩
    have H' := aa H
    clear H
    have p101 : 0 ≤ (x5_1 : Int) := of_decide_eq_true zgglam
    have q101 : x5_1 < (l0.length : Int) := of_decide_eq_true zgglam
    obtain ⟨ad101, e101, hx101_0, hx101_1, hx101_2, hx101_3, hx101_4⟩ := at_T32 HR0.out x5_1 p101 q101
    cases e101
    replace p101 := eq_true p101
    replace q101 := eq_true q101
    go_wp2
    go_roundg k1
    case measure => have := HK1.out; omega
    case rel => exact ⟨(wrap64 (x5_1 + 1)), zagbkp, H', ⟨by have := HK1.out; omega⟩, ziajdh⟩
   ·
    obtain rfl := Option.some.inj H
    go_wp2
    go_ret
    exact ⟨zagbkp, ziajdh⟩
def spec_l2Copy.f (l0 : List (S32)) : Option ((List (S32))) := (some (([] : List (S32)) : List (S32))).bind fun y101 => (if y101.length + l0.length < 2932031007402 then (some (y101 ++ l0)) else (none))
theorem spec_l2Copy.calls (A0 : Option Addr) (c0 : Nat) (l0 : List (S32)) (r : List (S32)) (w : World) (hr0 : Kd.C k32 w A0 l0.length l0) (hc0 : l0.length ≤ c0) (h : spec_l2Copy.f l0 = some r) :
  Calls Tryd.prog 65 #[.slice A0 l0.length c0] w fun e w' => ∃ v0_ : Value, e = .returned (v0_) ∧ Kd.R k32 32 w' w.heap.size (fun _ => True) v0_ r ∧ Below w.heap.size w w' := by
 have HR0 := aa hr0
 have HC0 := aa hc0
 clear hr0 hc0
 have HB := aa (Below.refl w.heap.size w)
 have H : ((some (([] : List (S32)) : List (S32))).bind fun y101 => (if y101.length + l0.length < 2932031007402 then (some (y101 ++ l0)) else (none))) = some r := h
 clear h
 revert H
 refine obl_ fun y101 Ny101 H => ?_
 revert H
 refine itG_ fun c2 H => ?_
 have LMc2 := aa c2
 clear c2
 obtain ⟨y104, hy104⟩ : ∃ y_ : List (S32), y_ = (y101 ++ l0) := ⟨_, rfl⟩
 replace H : (some y104) = some r := by cases hy104; exact H
 have Ny104 := aa hy104
 clear hy104
 obtain rfl := Option.some.inj H
 go_enter Tryd.func65, Tryd.ntmps65
 go_wp2_with (first | ((with_reducible refine gate_dst (N := 3) rfl ?_); refine Kd.R_lit k32 _ 32 ?hg (N := 3) ?hd (xs := ([] : List (S32))) (inner := []) (ok := fun _ => True) (okp := fun _ => True) ?hr ?hp (fun _ hk => hk) trivial (Below.refl _ _) (Nat.le_refl _) (by simp) ?_; (case hd => rfl); (case hg => rfl); (case hr => exact zhlgcp); (case hp => exact (Reps.none _ _)); intro v102 w3 ho4 hb hg_ hnew_; clear hg_ hnew_; (first | rw [← Ny101.out] at ho4 | (simp only [Int.reduceToNat] at ho4; rw [← Ny101.out] at ho4)); have HO103 := aa (Kd.R_lower ho4 (below_size zjjbob)); replace HB := aa (below_step zjjbob hb); clear hb ho4) | ((with_reducible refine gate_builtin (b := .append) (xs := #[.tmp 3, .tmp 4]) rfl ?_); at_builtin; refine Kd.R_append_rows k32 (w0 := w) w.heap.size rfl (.tmp 3) (.tmp 4) 24 32 (.agg #[(.string ⟨#[]⟩), (.int .i64 0), (.int .i64 0), (.int .i64 0), (.int .i64 0)]) 48 rfl Tryd.underlying24 info32 rfl (by decide) (by omega) v102 y101 l0 _ _ _ (fun _ => True) (fun _ => False) rfl rfl ?aO ?aR (fun _ _ h => h) (fun _ h => h.elim) ?aF ?aB ?aS ?aL ?_; (case aR => exact zfmbgg); (case aB => exact zjjbob); (case aF => exact (fun _ _ => trivial)); (case aO => exact (zcaken HO103.out)); (case aS => exact (below_size zjjbob)); (case aL => have := LMc2.out; omega); intro v105 w5 ho hb hg hat; rw [← Ny104.out] at ho; replace HB := aa (hb); have HO106 := aa (ho); clear HO103; clear ho hb hg hat))
 go_ret
 exact ⟨_, zlhpib, zcaken HO106.out, zjjbob⟩
def spec_l2Set.j0 : Nat → List (S32) → Int → Int → Bool → Option (Int × ByteArray × (List (S32)))
 | 0, _, _, _, _ => none
 | k + 1, x0, x2, x9, x31 => if x31 = true then ((spec_l2Bad.f 7).bind fun bt115 => (some (bt115.1, bt115.2.1, bt115.2.2))) else (if 0 ≤ x9 then (if x9 < (x0.length : Int) then (if ((rd_T32 x0 x9).f2) ≥ 999 then ((spec_l2Bad.f 2).bind fun bt121 => (some (bt121.1, bt121.2.1, bt121.2.2))) else ((spec_l2Copy.f x0).bind fun t126 => (if x9 < (t126.length : Int) then ((some (t126.set (x9 : Int).toNat (⟨(rd_T32 t126 x9).f0, x2, (rd_T32 t126 x9).f2, (rd_T32 t126 x9).f3, (rd_T32 t126 x9).f4⟩ : S32) : List (S32))).bind fun y129 => (some (0, (⟨#[]⟩ : ByteArray), (y129.set (x9 : Int).toNat (⟨(rd_T32 y129 x9).f0, (rd_T32 y129 x9).f1, wrap64 (((rd_T32 y129 x9).f2) + 1), (rd_T32 y129 x9).f3, (rd_T32 y129 x9).f4⟩ : S32))))) else (none)))) else (none)) else (none))
def spec_l2Set.f (k : Nat) (l0 : List (S32)) (a1 : ByteArray) (a2 : Int) (a3 : Int) : Option (Int × ByteArray × (List (S32))) := (spec_l2Data.f a2).bind fun t102 => (if t102 = true then ((spec_l2At.f k l0 a1).bind fun t108 => (if t108 < 0 then ((spec_l2Bad.f 4).bind fun bt109 => (some (bt109.1, bt109.2.1, bt109.2.2))) else (if a3 = (-1) then (spec_l2Set.j0 k l0 a2 t108 false) else (if 0 ≤ t108 then (if t108 < (l0.length : Int) then (spec_l2Set.j0 k l0 a2 t108 (a3 != ((rd_T32 l0 t108).f2))) else (none)) else (none))))) else ((spec_l2Bad.f 3).bind fun bt103 => (some (bt103.1, bt103.2.1, bt103.2.2))))
theorem spec_l2Set.mono_l : ∀ k, (∀ y0 y1 y2 y3, LeO (spec_l2Set.j0 k y0 y1 y2 y3) (spec_l2Set.j0 (k + 1) y0 y1 y2 y3))
 | 0 => fun _ _ _ _ r h => by simp [spec_l2Set.j0] at h
 | k + 1 => by
  have ih0 := spec_l2Set.mono_l k
  ·
   intro y0 y1 y2 y3
   unfold spec_l2Set.j0
   with_reducible repeat' first | exact ih0 _ _ _ _ | exact spec_l2At.mono _ _ _ | exact LeO.refl _ | exact LeO.none _ | refine LeO.ite ?_ ?_ | refine LeO.bind ?_ (fun _ => ?_)
theorem spec_l2Set.mono : ∀ a0 a1 a2 a3 k, LeO (spec_l2Set.f k a0 a1 a2 a3) (spec_l2Set.f (k + 1) a0 a1 a2 a3) := by
 intro a0 a1 a2 a3 k
 have ih0 := spec_l2Set.mono_l k
 unfold spec_l2Set.f
 with_reducible repeat' first | exact ih0 _ _ _ _ | exact spec_l2At.mono _ _ _ | exact LeO.refl _ | exact LeO.none _ | refine LeO.ite ?_ ?_ | refine LeO.bind ?_ (fun _ => ?_)
theorem spec_l2Set.calls (k : Nat) (A0 : Option Addr) (c0 : Nat) (l0 : List (S32)) (a1 : ByteArray) (a2 : Int) (a3 : Int) (r1 : Int) (r2 : ByteArray) (r3 : List (S32)) (w : World) (hr0 : Kd.C k32 w A0 l0.length l0) (hc0 : l0.length ≤ c0) (h : spec_l2Set.f k l0 a1 a2 a3 = some (r1, r2, r3)) :
  Calls Tryd.prog 35 #[.slice A0 l0.length c0, .string a1, .int .i64 a2, .int .i64 a3] w fun e w' => ∃ v2_ : Value, e = .returned (.agg #[.int .i64 r1, .string r2, v2_]) ∧ Kd.R k32 32 w' w.heap.size (fun _ => True) v2_ r3 ∧ Below w.heap.size w w' := by
 have hu28 := Tryd.underlying28
 have HR0 := aa hr0
 have HC0 := aa hc0
 clear hr0 hc0
 have HB := aa (Below.refl w.heap.size w)
 have H : ((spec_l2Data.f a2).bind fun t102 => (if t102 = true then ((spec_l2At.f k l0 a1).bind fun t108 => (if t108 < 0 then ((spec_l2Bad.f 4).bind fun bt109 => (some (bt109.1, bt109.2.1, bt109.2.2))) else (if a3 = (-1) then (spec_l2Set.j0 k l0 a2 t108 false) else (if 0 ≤ t108 then (if t108 < (l0.length : Int) then (spec_l2Set.j0 k l0 a2 t108 (a3 != ((rd_T32 l0 t108).f2))) else (none)) else (none))))) else ((spec_l2Bad.f 3).bind fun bt103 => (some (bt103.1, bt103.2.1, bt103.2.2))))) = some (r1, r2, r3) := h
 clear h
 revert H
 refine obs_ fun t102 A5 H => ?_
 by_cases c6 : t102 = true
 ·
  subst c6
  rw [if_pos rfl] at H
  revert H
  refine obs_ fun t108 A7 H => ?_
  revert H
  refine itD_ (fun c8b0 H => ?_) fun c8b0 H => ?_
  ·
   revert H
   refine ob3_ fun t109 t110 t111 A9 H => ?_
   (try dsimp only at H)
   simp only [Option.some.injEq, Prod.mk.injEq] at H
   obtain ⟨rfl, rfl, rfl⟩ := H
   go_enter Tryd.func35, Tryd.ntmps35
   go_wp2_with (first | (refine be_ 8 #[.int .i64 0, .string (⟨#[]⟩ : ByteArray), .slice none 0 0] 28 ?_; intro gb101 hg w10 hbox hb; have n0_ := aa (below_step zjjbob hb); have n1_ := aa (hbox); have n2_ := aa ((zkpfjp : w.heap.size ≤ gb101)); have n3_ := aa ((zkpfjp : w.heap.size ≤ gb101)); clear HB; have HB := n0_; have BK101 := n1_; have GW101 := n2_; have GE101 := n3_; clear n0_ n1_ n2_ n3_; clear hb hbox hg) | (refine gc_ Tryd.func63 (some 12) #[.int .i64 a2] ?_; (with_reducible refine (spec_l2Data.calls a2 true _ A5.out).mono ?_); rintro e w' ⟨rfl, ⟨nd, rfl⟩⟩; refine ⟨_, rfl, ?_⟩; (try (rw [drewN_self w10]; generalize hq_ : World.drewN w10 _ = w10; have n0_ : Aside0 (w10.heap[gb101]? = some (.cells #[.int .i64 0, .string (⟨#[]⟩ : ByteArray), .slice none 0 0] 28 (0, 0))) := ⟨by rw [← hq_]; exact (zkjhpm BK101.out)⟩; have n1_ : Aside0 (Below w.heap.size w w10) := ⟨by rw [← hq_]; exact zkmbdh⟩; clear BK101 HB hq_; have BK101 := n0_; have HB := n1_; clear n0_ n1_))) | (refine gc_ Tryd.func64 (some 17) #[.slice A0 l0.length c0, .string a1] ?_; (with_reducible refine (spec_l2At.calls k _ _ l0 a1 t108 _ zfmbgg HC0.out A7.out).mono ?_); rintro e w' ⟨rfl, ⟨nd, rfl⟩⟩; refine ⟨_, rfl, ?_⟩; (try (rw [drewN_self w10]; generalize hq_ : World.drewN w10 _ = w10; have n0_ : Aside0 (w10.heap[gb101]? = some (.cells #[.int .i64 0, .string (⟨#[]⟩ : ByteArray), .slice none 0 0] 28 (0, 0))) := ⟨by rw [← hq_]; exact (zkjhpm BK101.out)⟩; have n1_ : Aside0 (Below w.heap.size w w10) := ⟨by rw [← hq_]; exact zkmbdh⟩; clear BK101 HB hq_; have BK101 := n0_; have HB := n1_; clear n0_ n1_))) | (refine gc_ Tryd.func34 (some 20) #[.int .i64 4] ?_; (with_reducible refine (spec_l2Bad.calls 4 t109 t110 t111 _ A9.out).mono ?_); rintro e w11 ⟨v112, rfl, ho0, hb⟩; refine ⟨_, rfl, ?_⟩; have HO113 := aa (Kd.R_lower ho0 (below_size zkmbdh)); replace BK101 := aa (bb_ BK101.out hb); replace HB := aa (below_step zkmbdh hb); (try clear hb hk hi ho0); obtain ⟨hcz12_0, hcz12_1, hcz12_2, hfz12_0, hfz12_1, hfz12_2⟩ := blk3_ BK101.out; obtain ⟨Ao13, co13, eo13⟩ := Kd.R_slice HO113.out; subst eo13))
   refine bodyPost_ret (results_cell_row rfl _ _ gb101 28 #[.int .i64 t109, .string t110, .slice Ao13 t111.length co13] (0, 0) _ rfl zblijj Tryd.underlying28 rfl (by kernel_rfl)) rfl ?_
   exact ⟨_, zlhpib, by (with_reducible repeat (first | apply Kd.R_alloc | apply Kd.R_drewN | apply Kd.R_drew)); exact Kd.R_mono (Kd.R_far (p := ⟨gb101, 2, none⟩) (Kd.R_far (p := ⟨gb101, 1, none⟩) (Kd.R_far (p := ⟨gb101, 0, none⟩) (Kd.R_types HO113.out BK101.out (by decide)) (fun _ hk => hk.2) (.int .i64 t109)) (fun _ hk => hk.2) (.string t110)) (fun _ hk => hk.2) (.slice Ao13 t111.length co13)) (fun _ hk => trivial), zkmbdh⟩
  have HC14 := aa H
  clear H
  go_enter Tryd.func35, Tryd.ntmps35
  go_upto_region 6 with (first | (refine be_ 8 #[.int .i64 0, .string (⟨#[]⟩ : ByteArray), .slice none 0 0] 28 ?_; intro gb101 hg w15 hbox hb; have n0_ := aa (below_step zjjbob hb); have n1_ := aa (hbox); have n2_ := aa ((zkpfjp : w.heap.size ≤ gb101)); have n3_ := aa ((zkpfjp : w.heap.size ≤ gb101)); clear HB; have HB := n0_; have BK101 := n1_; have GW101 := n2_; have GE101 := n3_; clear n0_ n1_ n2_ n3_; clear hb hbox hg) | (refine gc_ Tryd.func63 (some 12) #[.int .i64 a2] ?_; (with_reducible refine (spec_l2Data.calls a2 true _ A5.out).mono ?_); rintro e w' ⟨rfl, ⟨nd, rfl⟩⟩; refine ⟨_, rfl, ?_⟩) | (refine gc_ Tryd.func64 (some 17) #[.slice A0 l0.length c0, .string a1] ?_; (with_reducible refine (spec_l2At.calls k _ _ l0 a1 t108 _ zklojj HC0.out A7.out).mono ?_); rintro e w' ⟨rfl, ⟨nd, rfl⟩⟩; refine ⟨_, rfl, ?_⟩))
  (try simp only [Act.put, List.setIfInBounds_toArray, List.set_cons_zero, List.set_cons_succ])
  go_cut [31] (fun v31 wc => ∃ (kq : Nat) (x31_13 : Bool), v31 = .bool x31_13 ∧ Aside0 (spec_l2Set.j0 kq l0 a2 t108 x31_13 = some (r1, r2, r3)) ∧ Aside0 (kq ≤ k) ∧ Aside0 (wc.heap[gb101]? = some (.cells #[.int .i64 0, .string (⟨#[]⟩ : ByteArray), (.slice none 0 0)] 28 (0, 0))) ∧ Aside0 (Below w.heap.size w wc))
  case first =>
   have H := HC14.out
   clear HC14
   revert H
   refine itE_ (fun c16b0 c16b1 H => ?_) fun c16b0 c16b1 H => ?_
   ·
    (first | rw [c16b0] | (simp only [i64_w, i32_w]; rw [c16b0]) | (simp only [c16b2, Bool.not_false, Bool.not_true]) | skip)
    have H' := aa H
    clear H
    go_wp2
    go_meet
    case rel => exact ⟨_, (false), zagbkp, H', ⟨zpacfg⟩, ⟨zkjhpm BK101.out⟩, ⟨zkmbdh⟩⟩
   (first | rw [c16b0] | (simp only [i64_w, i32_w]; rw [c16b0]) | (simp only [c16b2, Bool.not_false, Bool.not_true]) | skip)
   revert H
   refine itH_ fun c17b0 H => ?_
   revert H
   refine itH_ fun c18b0 H => ?_
   have H' := aa H
   clear H
   have p114 : 0 ≤ (t108 : Int) := of_decide_eq_true zgglam
   have q114 : t108 < (l0.length : Int) := of_decide_eq_true zgglam
   obtain ⟨ad114, e114, hx114_0, hx114_1, hx114_2, hx114_3, hx114_4⟩ := at_T32 HR0.out t108 p114 q114
   cases e114
   replace hx114_0 := pb HB.out hx114_0
   replace hx114_1 := pb HB.out hx114_1
   replace hx114_2 := pb HB.out hx114_2
   replace hx114_3 := pb HB.out hx114_3
   replace hx114_4 := pb HB.out hx114_4
   replace p114 := eq_true p114
   replace q114 := eq_true q114
   go_wp2
   go_meet
   case rel => exact ⟨_, ((a3 != ((rd_T32 l0 t108).f2))), zagbkp, H', ⟨zpacfg⟩, ⟨zkjhpm BK101.out⟩, ⟨zkmbdh⟩⟩
  case rest =>
   clear HC14
   try clear p1
   try clear q1
   try clear hx1
   try clear p2
   try clear c6
   try clear c8b0
   try clear p11
   try clear q11
   try clear hx11
   try clear c16b0
   try clear c16b1
   try clear c16b2
   try clear c17b0
   try clear c18b0
   try clear hcz12_0
   try clear hcz12_1
   try clear hcz12_2
   try clear hfz12_0
   try clear hfz12_1
   try clear hfz12_2
   try clear hx114_0
   try clear hx114_1
   try clear hx114_2
   try clear hx114_3
   try clear hx114_4
   try clear p114
   try clear q114
   obtain ⟨kq, x31_13, rfl, HA, HJ13, BK101, HB⟩ := hcut
   cases kq with
   | zero => exact absurd HA.out (by simp [spec_l2Set.j0])
   | succ kj13 =>
    have H := HA.out
    clear HA
    simp only [spec_l2Set.j0] at H
    by_cases c19 : x31_13 = true
    ·
     subst c19
     rw [if_pos rfl] at H
     revert H
     refine ob3_ fun t115 t116 t117 A20 H => ?_
     (try dsimp only at H)
     simp only [Option.some.injEq, Prod.mk.injEq] at H
     obtain ⟨rfl, rfl, rfl⟩ := H
     go_wp2_with (first | (refine gc_ Tryd.func34 (some 32) #[.int .i64 7] ?_; (with_reducible refine (spec_l2Bad.calls 7 t115 t116 t117 _ A20.out).mono ?_); rintro e w21 ⟨v118, rfl, ho0, hb⟩; refine ⟨_, rfl, ?_⟩; have HO119 := aa (Kd.R_lower ho0 (below_size zkmbdh)); replace BK101 := aa (bb_ BK101.out hb); replace HB := aa (below_step zkmbdh hb); (try clear hb hk hi ho0); obtain ⟨hcz22_0, hcz22_1, hcz22_2, hfz22_0, hfz22_1, hfz22_2⟩ := blk3_ BK101.out; obtain ⟨Ao23, co23, eo23⟩ := Kd.R_slice HO119.out; subst eo23))
     refine bodyPost_ret (results_cell_row rfl _ _ gb101 28 #[.int .i64 t115, .string t116, .slice Ao23 t117.length co23] (0, 0) _ rfl (by (with_reducible repeat (first | refine blk_drewN ?_ _ | refine blk_drew ?_ | refine blk_alloc ?_ _)); refine blk_put (cs := #[.int .i64 t115, .string t116, .slice none 0 0]) ?_ 2 _ rfl; (with_reducible repeat (first | refine blk_drewN ?_ _ | refine blk_drew ?_ | refine blk_alloc ?_ _)); refine blk_put (cs := #[.int .i64 t115, .string (⟨#[]⟩ : ByteArray), .slice none 0 0]) ?_ 1 _ rfl; (with_reducible repeat (first | refine blk_drewN ?_ _ | refine blk_drew ?_ | refine blk_alloc ?_ _)); refine blk_put (cs := #[.int .i64 0, .string (⟨#[]⟩ : ByteArray), .slice none 0 0]) ?_ 0 _ rfl; (with_reducible repeat (first | refine blk_drewN ?_ _ | refine blk_drew ?_ | refine blk_alloc ?_ _)); exact BK101.out) Tryd.underlying28 rfl (by kernel_rfl)) rfl ?_
     exact ⟨_, zlhpib, by (with_reducible repeat (first | apply Kd.R_alloc | apply Kd.R_drewN | apply Kd.R_drew)); exact Kd.R_mono (Kd.R_far (p := ⟨gb101, 2, none⟩) (Kd.R_far (p := ⟨gb101, 1, none⟩) (Kd.R_far (p := ⟨gb101, 0, none⟩) (Kd.R_types HO119.out BK101.out (by decide)) (fun _ hk => hk.2) (.int .i64 t115)) (fun _ hk => hk.2) (.string t116)) (fun _ hk => hk.2) (.slice Ao23 t117.length co23)) (fun _ hk => trivial), zkmbdh⟩
    ·
     replace c19 := Bool.eq_false_iff.mpr c19
     subst c19
     rw [if_neg fT_] at H
     revert H
     refine itH_ fun c24b0 H => ?_
     revert H
     refine itH_ fun c25b0 H => ?_
     revert H
     refine itC_ (fun c26 H => ?_) fun c26 H => ?_
     ·
      have c26b0 : decide (999 ≤ ((rd_T32 l0 t108).f2)) = true := decide_eq_true c26
      clear c26
      revert H
      refine ob3_ fun t121 t122 t123 A27 H => ?_
      (try dsimp only at H)
      simp only [Option.some.injEq, Prod.mk.injEq] at H
      obtain ⟨rfl, rfl, rfl⟩ := H
      have p120 : 0 ≤ (t108 : Int) := of_decide_eq_true zgglam
      have q120 : t108 < (l0.length : Int) := of_decide_eq_true zgglam
      obtain ⟨ad120, e120, hx120_0, hx120_1, hx120_2, hx120_3, hx120_4⟩ := at_T32 HR0.out t108 p120 q120
      cases e120
      replace hx120_0 := pb HB.out hx120_0
      replace hx120_1 := pb HB.out hx120_1
      replace hx120_2 := pb HB.out hx120_2
      replace hx120_3 := pb HB.out hx120_3
      replace hx120_4 := pb HB.out hx120_4
      replace p120 := eq_true p120
      replace q120 := eq_true q120
      go_wp2_with (first | (refine gc_ Tryd.func34 (some 39) #[.int .i64 2] ?_; (with_reducible refine (spec_l2Bad.calls 2 t121 t122 t123 _ A27.out).mono ?_); rintro e w28 ⟨v124, rfl, ho0, hb⟩; refine ⟨_, rfl, ?_⟩; have HO125 := aa (Kd.R_lower ho0 (below_size zkmbdh)); replace BK101 := aa (bb_ BK101.out hb); replace HB := aa (below_step zkmbdh hb); (try clear hb hk hi ho0); obtain ⟨hcz29_0, hcz29_1, hcz29_2, hfz29_0, hfz29_1, hfz29_2⟩ := blk3_ BK101.out; obtain ⟨Ao30, co30, eo30⟩ := Kd.R_slice HO125.out; subst eo30))
      refine bodyPost_ret (results_cell_row rfl _ _ gb101 28 #[.int .i64 t121, .string t122, .slice Ao30 t123.length co30] (0, 0) _ rfl (by (with_reducible repeat (first | refine blk_drewN ?_ _ | refine blk_drew ?_ | refine blk_alloc ?_ _)); refine blk_put (cs := #[.int .i64 t121, .string t122, .slice none 0 0]) ?_ 2 _ rfl; (with_reducible repeat (first | refine blk_drewN ?_ _ | refine blk_drew ?_ | refine blk_alloc ?_ _)); refine blk_put (cs := #[.int .i64 t121, .string (⟨#[]⟩ : ByteArray), .slice none 0 0]) ?_ 1 _ rfl; (with_reducible repeat (first | refine blk_drewN ?_ _ | refine blk_drew ?_ | refine blk_alloc ?_ _)); refine blk_put (cs := #[.int .i64 0, .string (⟨#[]⟩ : ByteArray), .slice none 0 0]) ?_ 0 _ rfl; (with_reducible repeat (first | refine blk_drewN ?_ _ | refine blk_drew ?_ | refine blk_alloc ?_ _)); exact BK101.out) Tryd.underlying28 rfl (by kernel_rfl)) rfl ?_
      exact ⟨_, zlhpib, by (with_reducible repeat (first | apply Kd.R_alloc | apply Kd.R_drewN | apply Kd.R_drew)); exact Kd.R_mono (Kd.R_far (p := ⟨gb101, 2, none⟩) (Kd.R_far (p := ⟨gb101, 1, none⟩) (Kd.R_far (p := ⟨gb101, 0, none⟩) (Kd.R_types HO125.out BK101.out (by decide)) (fun _ hk => hk.2) (.int .i64 t121)) (fun _ hk => hk.2) (.string t122)) (fun _ hk => hk.2) (.slice Ao30 t123.length co30)) (fun _ hk => trivial), zkmbdh⟩
     have c26b0 : decide (999 ≤ ((rd_T32 l0 t108).f2)) = false := decide_eq_false c26
     clear c26
     revert H
     refine obs_ fun t126 A31 H => ?_
     revert H
     refine itH_ fun c32b0 H => ?_
     revert H
     refine obl_ fun y129 Ny129 H => ?_
     obtain ⟨y131, hy131⟩ : ∃ y_ : List (S32), y_ = (y129.set (t108 : Int).toNat (⟨(rd_T32 y129 t108).f0, (rd_T32 y129 t108).f1, wrap64 (((rd_T32 y129 t108).f2) + 1), (rd_T32 y129 t108).f3, (rd_T32 y129 t108).f4⟩ : S32)) := ⟨_, rfl⟩
     replace H : (some (0, (⟨#[]⟩ : ByteArray), y131)) = some (r1, r2, r3) := by cases hy131; exact H
     have Ny131 := aa hy131
     clear hy131
     simp only [Option.some.injEq, Prod.mk.injEq] at H
     obtain ⟨rfl, rfl, rfl⟩ := H
     have p120 : 0 ≤ (t108 : Int) := of_decide_eq_true zgglam
     have q120 : t108 < (l0.length : Int) := of_decide_eq_true zgglam
     obtain ⟨ad120, e120, hx120_0, hx120_1, hx120_2, hx120_3, hx120_4⟩ := at_T32 HR0.out t108 p120 q120
     cases e120
     replace hx120_0 := pb HB.out hx120_0
     replace hx120_1 := pb HB.out hx120_1
     replace hx120_2 := pb HB.out hx120_2
     replace hx120_3 := pb HB.out hx120_3
     replace hx120_4 := pb HB.out hx120_4
     replace p120 := eq_true p120
     replace q120 := eq_true q120
     go_wp2_with (first | (refine gc_ Tryd.func65 (some 41) #[.slice (some ad120) l0.length c0] ?_; (with_reducible refine (spec_l2Copy.calls _ _ l0 t126 _ zfmbgg HC0.out A31.out).mono ?_); rintro e w35 ⟨v127, rfl, ho0, hb⟩; refine ⟨_, rfl, ?_⟩; have HO128 := aa (Kd.R_lower ho0 (below_size zkmbdh)); replace BK101 := aa (bb_ BK101.out hb); replace HB := aa (below_step zkmbdh hb); (try clear hb hk hi ho0); have p33 : 0 ≤ (t108 : Int) := of_decide_eq_true zgglam; have q33 : (t108 : Int) < ((t126.length : Int) : Int) := of_decide_eq_true zgglam; obtain ⟨go33, co33, eo33, gb33, gl33, cl33, HG33⟩ := Kd.R_form HO128.out (by omega); (first | cases eo33 | (injection eo33 with ea_ en_ ec_; (first | subst ea_ | (injection ea_ with ea_; subst ea_)); subst ec_; clear en_)); have GB33 := aa gb33; have GG33 := aa HG33; clear gb33 gl33 HG33; obtain ⟨ce33, hcl33, hM33, hcc33, hfr33⟩ := Kd.R_elem HO128.out z32 (t108 : Int) p33 q33; obtain rfl := k32_openM hM33; have hx33_0 : w35.cell? ⟨go33, (t108 : Int).toNat * 5, none⟩ = some (.string ((rd_T32 t126 t108).f0)) := hcc33 0 _ rfl; have hx33_1 : w35.cell? ⟨go33, (t108 : Int).toNat * 5 + 1, none⟩ = some (.int .i64 ((rd_T32 t126 t108).f1)) := hcc33 1 _ rfl; have hx33_2 : w35.cell? ⟨go33, (t108 : Int).toNat * 5 + 2, none⟩ = some (.int .i64 ((rd_T32 t126 t108).f2)) := hcc33 2 _ rfl; have hx33_3 : w35.cell? ⟨go33, (t108 : Int).toNat * 5 + 3, none⟩ = some (.int .i64 ((rd_T32 t126 t108).f3)) := hcc33 3 _ rfl; have hx33_4 : w35.cell? ⟨go33, (t108 : Int).toNat * 5 + 4, none⟩ = some (.int .i64 ((rd_T32 t126 t108).f4)) := hcc33 4 _ rfl; have hf33_0 : w35.frozen? ⟨go33, (t108 : Int).toNat * 5, none⟩ = false := hfr33 0; have hf33_1 : w35.frozen? ⟨go33, (t108 : Int).toNat * 5 + 1, none⟩ = false := hfr33 1; have hf33_2 : w35.frozen? ⟨go33, (t108 : Int).toNat * 5 + 2, none⟩ = false := hfr33 2; have hf33_3 : w35.frozen? ⟨go33, (t108 : Int).toNat * 5 + 3, none⟩ = false := hfr33 3; have hf33_4 : w35.frozen? ⟨go33, (t108 : Int).toNat * 5 + 4, none⟩ = false := hfr33 4; clear hcl33 hcc33 hfr33 hM33; replace p33 := eq_true p33; replace q33 := eq_true q33; have HX36 := aa (show Kd.R k32 32 w35 w.heap.size (fun _ => True) (.slice (some ⟨go33, 0, none⟩) t126.length co33) t126 from (zcaken HO128.out)); obtain ⟨ce36, hcl36, hM36, hcc36, hfr36⟩ := Kd.R_elem HX36.out z32 (t108 : Int) (of_decide_eq_true zgglam) (by have h_ : (t108 : Int) < ((t126.length : Int) : Int) := of_decide_eq_true zgglam; first | exact h_ | (have e_ := (Kd.R_reads' HO128.out).1; omega) | simpa using h_); obtain rfl := k32_openM hM36; have HP36 := Kd.R_seg HX36.out (t108 : Int) (of_decide_eq_true zgglam) (by have h_ : (t108 : Int) < ((t126.length : Int) : Int) := of_decide_eq_true zgglam; first | exact h_ | (have e_ := (Kd.R_reads' HO128.out).1; omega) | simpa using h_) (seg := [.int .i64 a2]) (j := 1) hcl36 hcc36 (show 2 ≤ 5 from by decide) (x' := (⟨(rd_T32 t126 t108).f0, a2, (rd_T32 t126 t108).f2, (rd_T32 t126 t108).f3, (rd_T32 t126 t108).f4⟩ : S32)) (k32_mkM _ _ _ (⟨(rd_T32 t126 t108).f0, a2, (rd_T32 t126 t108).f2, (rd_T32 t126 t108).f3, (rd_T32 t126 t108).f4⟩ : S32) ) (fun _ hk => hk); have hx36_1 := hcc36 1 _ rfl; (try simp only [show (k32).sz = 5 from rfl, Nat.mul_one, Nat.add_zero] at hx36_1); have hf36_1 := hfr36 1; (try simp only [show (k32).sz = 5 from rfl, Nat.mul_one, Nat.add_zero] at hf36_1); clear hcl36 hcc36 hfr36 hM36) | ((with_reducible refine gate_store (t := 2) (p := 46) rfl ?_); refine store_event (t := 2) (p := 46) (v := ?vo_w37) (w1 := (w35.setCell ⟨go33, (t108 : Int).toNat * 5 + 1, none⟩ (.int .i64 a2))) ?hg ?ho ?hn ?hr ?_; (case ho => rfl); (case hg => rfl); (case hn => rfl); (case hr => exact zhlgcp); intro w37 hw; have hg : w35.grownBy w37 (some go33) := (by rw [hw]; exact HP36.2); have hp_ : Kd.R k32 32 w37 w.heap.size (fun _ => True) (.slice (some ⟨go33, 0, none⟩) t126.length co33) y129 := (by rw [hw, Ny129.out]; exact HP36.1); clear HP36; have n0_ := aa (blk_grown (g := gb101) (o := .cells #[.int .i64 0, .string (⟨#[]⟩ : ByteArray), .slice none 0 0] 28 (0, 0)) (zkjhpm BK101.out) hg (Kd.R_ne HO128.out BK101.out (by decide))); have n1_ := aa (hp_); have n2_ := aa ((by rw [hw]; exact below_set (HB.out) GB33.out : Below w.heap.size w w37)); clear BK101; clear HO128; clear HB; have BK101 := n0_; have HO128 := n1_; have HB := n2_; clear n0_ n1_ n2_; clear hg hw hp_; have p130 : 0 ≤ (t108 : Int) := of_decide_eq_true zgglam; have q130 : t108 < (y129.length : Int) := (by have h_ : (t108 : Int) < ((t126.length : Int) : Int) := of_decide_eq_true zgglam; first | (have e_ := (Kd.R_reads' HO128.out).1; omega) | simpa only [Ny129.out, List.length_set] using h_); have ql130 : ((t108 : Int) < ((t126.length : Int) : Int)) = True := eq_true (of_decide_eq_true zgglam); obtain ⟨ad130, e130, hx130_0, hx130_1, hx130_2, hx130_3, hx130_4⟩ := at_T32 (Kd.R_reads' HO128.out).2.2 t108 p130 q130; obtain rfl : (⟨go33, 0, none⟩ : Addr) = ad130 := (by injection e130); (first | simp only [add_plain] at hx130_0 | simp only [add_at] at hx130_0 | simp only [Addr.add, Nat.zero_add] at hx130_0 | skip); (first | simp only [add_plain] at hx130_1 | simp only [add_at] at hx130_1 | simp only [Addr.add, Nat.zero_add] at hx130_1 | skip); (first | simp only [add_plain] at hx130_2 | simp only [add_at] at hx130_2 | simp only [Addr.add, Nat.zero_add] at hx130_2 | skip); (first | simp only [add_plain] at hx130_3 | simp only [add_at] at hx130_3 | simp only [Addr.add, Nat.zero_add] at hx130_3 | skip); (first | simp only [add_plain] at hx130_4 | simp only [add_at] at hx130_4 | simp only [Addr.add, Nat.zero_add] at hx130_4 | skip); replace p130 := eq_true p130; replace q130 := eq_true q130; have p34 : 0 ≤ (t108 : Int) := of_decide_eq_true zgglam; have q34 : (t108 : Int) < ((t126.length : Int) : Int) := of_decide_eq_true zgglam; obtain ⟨ce34, hcl34, hM34, hcc34, hfr34⟩ := Kd.R_elem HO128.out z32 (t108 : Int) p34 q34; obtain rfl := k32_openM hM34; have hx34_0 : w37.cell? ⟨go33, (t108 : Int).toNat * 5, none⟩ = some (.string ((rd_T32 y129 t108).f0)) := hcc34 0 _ rfl; have hx34_1 : w37.cell? ⟨go33, (t108 : Int).toNat * 5 + 1, none⟩ = some (.int .i64 ((rd_T32 y129 t108).f1)) := hcc34 1 _ rfl; have hx34_2 : w37.cell? ⟨go33, (t108 : Int).toNat * 5 + 2, none⟩ = some (.int .i64 ((rd_T32 y129 t108).f2)) := hcc34 2 _ rfl; have hx34_3 : w37.cell? ⟨go33, (t108 : Int).toNat * 5 + 3, none⟩ = some (.int .i64 ((rd_T32 y129 t108).f3)) := hcc34 3 _ rfl; have hx34_4 : w37.cell? ⟨go33, (t108 : Int).toNat * 5 + 4, none⟩ = some (.int .i64 ((rd_T32 y129 t108).f4)) := hcc34 4 _ rfl; have hf34_0 : w37.frozen? ⟨go33, (t108 : Int).toNat * 5, none⟩ = false := hfr34 0; have hf34_1 : w37.frozen? ⟨go33, (t108 : Int).toNat * 5 + 1, none⟩ = false := hfr34 1; have hf34_2 : w37.frozen? ⟨go33, (t108 : Int).toNat * 5 + 2, none⟩ = false := hfr34 2; have hf34_3 : w37.frozen? ⟨go33, (t108 : Int).toNat * 5 + 3, none⟩ = false := hfr34 3; have hf34_4 : w37.frozen? ⟨go33, (t108 : Int).toNat * 5 + 4, none⟩ = false := hfr34 4; clear hcl34 hcc34 hfr34 hM34; replace p34 := eq_true p34; replace q34 := eq_true q34; have HX38 := aa (show Kd.R k32 32 w37 w.heap.size (fun _ => True) (.slice (some ⟨go33, 0, none⟩) t126.length co33) y129 from (zcaken HO128.out)); obtain ⟨ce38, hcl38, hM38, hcc38, hfr38⟩ := Kd.R_elem HX38.out z32 (t108 : Int) (of_decide_eq_true zgglam) (by have h_ : (t108 : Int) < ((t126.length : Int) : Int) := of_decide_eq_true zgglam; first | exact h_ | (have e_ := (Kd.R_reads' HO128.out).1; omega) | simpa using h_); obtain rfl := k32_openM hM38; have HP38 := Kd.R_seg HX38.out (t108 : Int) (of_decide_eq_true zgglam) (by have h_ : (t108 : Int) < ((t126.length : Int) : Int) := of_decide_eq_true zgglam; first | exact h_ | (have e_ := (Kd.R_reads' HO128.out).1; omega) | simpa using h_) (seg := [.int .i64 (wrap64 (((rd_T32 y129 t108).f2) + 1))]) (j := 2) hcl38 hcc38 (show 3 ≤ 5 from by decide) (x' := (⟨(rd_T32 y129 t108).f0, (rd_T32 y129 t108).f1, wrap64 (((rd_T32 y129 t108).f2) + 1), (rd_T32 y129 t108).f3, (rd_T32 y129 t108).f4⟩ : S32)) (k32_mkM _ _ _ (⟨(rd_T32 y129 t108).f0, (rd_T32 y129 t108).f1, wrap64 (((rd_T32 y129 t108).f2) + 1), (rd_T32 y129 t108).f3, (rd_T32 y129 t108).f4⟩ : S32) ) (fun _ hk => hk); have hx38_2 := hcc38 2 _ rfl; (try simp only [show (k32).sz = 5 from rfl, Nat.mul_one, Nat.add_zero] at hx38_2); have hf38_2 := hfr38 2; (try simp only [show (k32).sz = 5 from rfl, Nat.mul_one, Nat.add_zero] at hf38_2); clear hcl38 hcc38 hfr38 hM38) | ((with_reducible refine gate_store (t := 2) (p := 54) rfl ?_); refine store_event (t := 2) (p := 54) (v := ?vo_w39) (w1 := (w37.setCell ⟨go33, (t108 : Int).toNat * 5 + 2, none⟩ (.int .i64 (wrap64 (((rd_T32 y129 t108).f2) + 1))))) ?hg ?ho ?hn ?hr ?_; (case ho => rfl); (case hg => rfl); (case hn => rfl); (case hr => exact zhlgcp); intro w39 hw; have hg : w37.grownBy w39 (some go33) := (by rw [hw]; exact HP38.2); have hp_ : Kd.R k32 32 w39 w.heap.size (fun _ => True) (.slice (some ⟨go33, 0, none⟩) t126.length co33) y131 := (by rw [hw, Ny131.out]; exact HP38.1); clear HP38; have n0_ := aa (blk_grown (g := gb101) (o := .cells #[.int .i64 0, .string (⟨#[]⟩ : ByteArray), .slice none 0 0] 28 (0, 0)) (zkjhpm BK101.out) hg (Kd.R_ne HO128.out BK101.out (by decide))); have n1_ := aa (hp_); have n2_ := aa ((by rw [hw]; exact below_set (HB.out) GB33.out : Below w.heap.size w w39)); clear BK101; clear HO128; clear HB; have BK101 := n0_; have HO128 := n1_; have HB := n2_; clear n0_ n1_ n2_; clear hg hw hp_; obtain ⟨hcz40_0, hcz40_1, hcz40_2, hfz40_0, hfz40_1, hfz40_2⟩ := blk3_ BK101.out))
     refine bodyPost_ret (results_cell_row rfl _ _ gb101 28 #[.int .i64 0, .string (⟨#[]⟩ : ByteArray), .slice (some ⟨go33, 0, none⟩) t126.length co33] (0, 0) _ rfl zkhiid Tryd.underlying28 rfl (by kernel_rfl)) rfl ?_
     exact ⟨_, zlhpib, by (with_reducible repeat (first | apply Kd.R_alloc | apply Kd.R_drewN | apply Kd.R_drew)); exact Kd.R_mono (Kd.R_far (p := ⟨gb101, 2, none⟩) (Kd.R_far (p := ⟨gb101, 1, none⟩) (Kd.R_far (p := ⟨gb101, 0, none⟩) (Kd.R_types HO128.out BK101.out (by decide)) (fun _ hk => hk.2) (.int .i64 0)) (fun _ hk => hk.2) (.string (⟨#[]⟩ : ByteArray))) (fun _ hk => hk.2) (.slice (some ⟨go33, 0, none⟩) t126.length co33)) (fun _ hk => trivial), zkmbdh⟩
 replace c6 := Bool.eq_false_iff.mpr c6
 subst c6
 rw [if_neg fT_] at H
 revert H
 refine ob3_ fun t103 t104 t105 A41 H => ?_
 (try dsimp only at H)
 simp only [Option.some.injEq, Prod.mk.injEq] at H
 obtain ⟨rfl, rfl, rfl⟩ := H
 go_enter Tryd.func35, Tryd.ntmps35
 go_wp2_with (first | (refine be_ 8 #[.int .i64 0, .string (⟨#[]⟩ : ByteArray), .slice none 0 0] 28 ?_; intro gb101 hg w42 hbox hb; have n0_ := aa (below_step zjjbob hb); have n1_ := aa (hbox); have n2_ := aa ((zkpfjp : w.heap.size ≤ gb101)); have n3_ := aa ((zkpfjp : w.heap.size ≤ gb101)); clear HB; have HB := n0_; have BK101 := n1_; have GW101 := n2_; have GE101 := n3_; clear n0_ n1_ n2_ n3_; clear hb hbox hg) | (refine gc_ Tryd.func63 (some 12) #[.int .i64 a2] ?_; (with_reducible refine (spec_l2Data.calls a2 false _ A5.out).mono ?_); rintro e w' ⟨rfl, ⟨nd, rfl⟩⟩; refine ⟨_, rfl, ?_⟩; (try (rw [drewN_self w42]; generalize hq_ : World.drewN w42 _ = w42; have n0_ : Aside0 (w42.heap[gb101]? = some (.cells #[.int .i64 0, .string (⟨#[]⟩ : ByteArray), .slice none 0 0] 28 (0, 0))) := ⟨by rw [← hq_]; exact (zkjhpm BK101.out)⟩; have n1_ : Aside0 (Below w.heap.size w w42) := ⟨by rw [← hq_]; exact zkmbdh⟩; clear BK101 HB hq_; have BK101 := n0_; have HB := n1_; clear n0_ n1_))) | (refine gc_ Tryd.func34 (some 14) #[.int .i64 3] ?_; (with_reducible refine (spec_l2Bad.calls 3 t103 t104 t105 _ A41.out).mono ?_); rintro e w43 ⟨v106, rfl, ho0, hb⟩; refine ⟨_, rfl, ?_⟩; have HO107 := aa (Kd.R_lower ho0 (below_size zkmbdh)); replace BK101 := aa (bb_ BK101.out hb); replace HB := aa (below_step zkmbdh hb); (try clear hb hk hi ho0); obtain ⟨hcz44_0, hcz44_1, hcz44_2, hfz44_0, hfz44_1, hfz44_2⟩ := blk3_ BK101.out; obtain ⟨Ao45, co45, eo45⟩ := Kd.R_slice HO107.out; subst eo45))
 refine bodyPost_ret (results_cell_row rfl _ _ gb101 28 #[.int .i64 t103, .string t104, .slice Ao45 t105.length co45] (0, 0) _ rfl zdmkil Tryd.underlying28 rfl (by kernel_rfl)) rfl ?_
 exact ⟨_, zlhpib, by (with_reducible repeat (first | apply Kd.R_alloc | apply Kd.R_drewN | apply Kd.R_drew)); exact Kd.R_mono (Kd.R_far (p := ⟨gb101, 2, none⟩) (Kd.R_far (p := ⟨gb101, 1, none⟩) (Kd.R_far (p := ⟨gb101, 0, none⟩) (Kd.R_types HO107.out BK101.out (by decide)) (fun _ hk => hk.2) (.int .i64 t103)) (fun _ hk => hk.2) (.string t104)) (fun _ hk => hk.2) (.slice Ao45 t105.length co45)) (fun _ hk => trivial), zkmbdh⟩
def spec_l1Last.l0 : Nat → ByteArray → Int → Int → Option (Int)
 | 0, _, _, _ => none
 | k + 1, x0, x3, x4 => if x4 < (x0.size : Int) then (if 0 ≤ x4 then (if (bt x0 x4) = 47 then (spec_l1Last.l0 k x0 x4 (wrap64 (x4 + 1))) else (spec_l1Last.l0 k x0 x3 (wrap64 (x4 + 1)))) else (none)) else (some x3)
def spec_l1Last.f (k : Nat) (a0 : ByteArray) : Option (Int) := spec_l1Last.l0 k a0 0 0
theorem spec_l1Last.mono_l : ∀ k, (∀ y0 y1 y2, LeO (spec_l1Last.l0 k y0 y1 y2) (spec_l1Last.l0 (k + 1) y0 y1 y2))
 | 0 => fun _ _ _ r h => by simp [spec_l1Last.l0] at h
 | k + 1 => by
  have ih0 := spec_l1Last.mono_l k
  ·
   intro y0 y1 y2
   unfold spec_l1Last.l0
   with_reducible repeat' first | exact ih0 _ _ _ | exact LeO.refl _ | exact LeO.none _ | refine LeO.ite ?_ ?_ | refine LeO.bind ?_ (fun _ => ?_)
theorem spec_l1Last.mono : ∀ a0 k, LeO (spec_l1Last.f k a0) (spec_l1Last.f (k + 1) a0) := by
 intro a0 k
 have ih0 := spec_l1Last.mono_l k
 unfold spec_l1Last.f
 with_reducible repeat' first | exact ih0 _ _ _ | exact LeO.refl _ | exact LeO.none _ | refine LeO.ite ?_ ?_ | refine LeO.bind ?_ (fun _ => ?_)
theorem spec_l1Last.calls (k : Nat) (a0 : ByteArray) (r : Int) (w : World) (h : spec_l1Last.f k a0 = some r) :
  Calls Tryd.prog 76 #[.string a0] w fun e w' => e = .returned (.int .i64 r) ∧ Drawn0 w w' := by
 have H : (spec_l1Last.l0 k a0 0 0) = some r := h
 clear h
 have H' := aa H
 clear H
 go_enter Tryd.func76, Tryd.ntmps76
 go_wp2
 go_loopg [3, 4] k (fun kq v3 v4 w' => ∃ (x3_1 : Int) (x4_1 : Int), v3 = .int .i64 x3_1 ∧ v4 = .int .i64 x4_1 ∧ Aside0 (spec_l1Last.l0 kq a0 x3_1 x4_1 = some r) ∧ Aside0 (kq ≤ k) ∧ Drawn0 w w')
 case atStart => exact ⟨(0), (0), zagbkp, zagbkp, H', ⟨Nat.le_refl _⟩, ziajdh⟩
 case round =>
  clear H'
  obtain ⟨x3_1, x4_1, rfl, rfl, HA, HK1, ⟨m1, rfl⟩⟩ := hrel
  cases gk with
  | zero => exact absurd HA.out (by simp [spec_l1Last.l0])
  | succ k1 =>
   have H := HA.out
   clear HA
   simp only [spec_l1Last.l0] at H
   revert H
   refine itD_ (fun c2b0 H => ?_) fun c2b0 H => ?_
   ·
    revert H
    refine itH_ fun c3b0 H => ?_
    revert H
    refine itE_ (fun c5b0 c5b1 H => ?_) fun c5b0 c5b1 H => ?_
    ·
     have H' := aa H
     clear H
     have p4 : 0 ≤ (x4_1 : Int) := of_decide_eq_true zgglam
     have q4 : x4_1 < (a0.size : Int) := of_decide_eq_true zgglam
     have hx4 := bt_at a0 x4_1
     replace p4 := eq_true p4
     replace q4 := eq_true q4
     go_wp2
     go_roundg k1
     case measure => have := HK1.out; omega
     case rel => exact ⟨(x4_1), (wrap64 (x4_1 + 1)), zagbkp, zagbkp, H', ⟨by have := HK1.out; omega⟩, ziajdh⟩
    have H' := aa H
    clear H
    have p4 : 0 ≤ (x4_1 : Int) := of_decide_eq_true zgglam
    have q4 : x4_1 < (a0.size : Int) := of_decide_eq_true zgglam
    have hx4 := bt_at a0 x4_1
    replace p4 := eq_true p4
    replace q4 := eq_true q4
    go_wp2
    go_roundg k1
    case measure => have := HK1.out; omega
    case rel => exact ⟨(x3_1), (wrap64 (x4_1 + 1)), zagbkp, zagbkp, H', ⟨by have := HK1.out; omega⟩, ziajdh⟩
   ·
    obtain rfl := Option.some.inj H
    go_wp2
    go_ret
    exact ⟨zagbkp, ziajdh⟩
def spec_l1Parent.f (k : Nat) (a0 : ByteArray) : Option (ByteArray) := (spec_l1Last.f k a0).bind fun t101 => (if t101 = 0 then (some (⟨#[47]⟩ : ByteArray)) else (if 0 ≤ t101 then (if t101 ≤ (a0.size : Int) then (some (a0.extract 0 (t101 : Int).toNat)) else (none)) else (none)))
theorem spec_l1Parent.mono : ∀ a0 k, LeO (spec_l1Parent.f k a0) (spec_l1Parent.f (k + 1) a0) := by
 intro a0 k
 unfold spec_l1Parent.f
 with_reducible repeat' first | exact spec_l1Last.mono _ _ | exact LeO.refl _ | exact LeO.none _ | refine LeO.ite ?_ ?_ | refine LeO.bind ?_ (fun _ => ?_)
theorem spec_l1Parent.calls (k : Nat) (a0 : ByteArray) (r : ByteArray) (w : World) (h : spec_l1Parent.f k a0 = some r) :
  Calls Tryd.prog 75 #[.string a0] w fun e w' => e = .returned (.string r) ∧ Drawn0 w w' := by
 have H : ((spec_l1Last.f k a0).bind fun t101 => (if t101 = 0 then (some (⟨#[47]⟩ : ByteArray)) else (if 0 ≤ t101 then (if t101 ≤ (a0.size : Int) then (some (a0.extract 0 (t101 : Int).toNat)) else (none)) else (none)))) = some r := h
 clear h
 revert H
 refine obs_ fun t101 A2 H => ?_
 revert H
 refine itE_ (fun c3b0 c3b1 H => ?_) fun c3b0 c3b1 H => ?_
 ·
  obtain rfl := Option.some.inj H
  go_enter Tryd.func75, Tryd.ntmps75
  go_wp2_with (first | (refine gc_ Tryd.func76 (some 5) #[.string a0] ?_; (with_reducible refine (spec_l1Last.calls k a0 t101 _ A2.out).mono ?_); rintro e w' ⟨rfl, ⟨nd, rfl⟩⟩; refine ⟨_, rfl, ?_⟩))
  go_ret
  exact ⟨zagbkp, ziajdh⟩
 revert H
 refine itG_ fun c4 H => ?_
 have c4b0 := eq_true c4
 have c4b1 := decide_eq_true c4
 clear c4
 revert H
 refine itG_ fun c5 H => ?_
 have c5b0 := eq_true c5
 have c5b1 := decide_eq_true c5
 clear c5
 obtain rfl := Option.some.inj H
 go_enter Tryd.func75, Tryd.ntmps75
 go_wp2_with (first | (refine gc_ Tryd.func76 (some 5) #[.string a0] ?_; (with_reducible refine (spec_l1Last.calls k a0 t101 _ A2.out).mono ?_); rintro e w' ⟨rfl, ⟨nd, rfl⟩⟩; refine ⟨_, rfl, ?_⟩))
 go_ret
 exact ⟨zagbkp, ziajdh⟩
def spec_l2Kids.l0 : Nat → List (S32) → ByteArray → List ByteArray → Int → Option (List ByteArray)
 | 0, _, _, _, _ => none
 | k + 1, x0, x1, x5, x6 => if x6 < (x0.length : Int) then (if 0 ≤ x6 then (if ((rd_T32 x0 x6).f0).toList = ([47] : List UInt8) then (spec_l2Kids.l0 k x0 x1 x5 (wrap64 (x6 + 1))) else ((spec_l1Parent.f k ((rd_T32 x0 x6).f0)).bind fun t105 => (if t105.toList = x1.toList then ((spec_l1Last.f k ((rd_T32 x0 x6).f0)).bind fun t106 => (if 0 ≤ (wrap64 (t106 + 1)) then (if (wrap64 (t106 + 1)) ≤ (((rd_T32 x0 x6).f0).size : Int) then (if x5.length < 8796093022208 then (spec_l2Kids.l0 k x0 x1 (x5 ++ [((rd_T32 x0 x6).f0).extract ((wrap64 (t106 + 1)) : Int).toNat ((rd_T32 x0 x6).f0).size]) (wrap64 (x6 + 1))) else (none)) else (none)) else (none))) else (spec_l2Kids.l0 k x0 x1 x5 (wrap64 (x6 + 1)))))) else (none)) else (some x5)
def spec_l2Kids.f (k : Nat) (l0 : List (S32)) (a1 : ByteArray) : Option (List ByteArray) := spec_l2Kids.l0 k l0 a1 (([] : List ByteArray)) 0
theorem spec_l2Kids.mono_l : ∀ k, (∀ y0 y1 y2 y3, LeO (spec_l2Kids.l0 k y0 y1 y2 y3) (spec_l2Kids.l0 (k + 1) y0 y1 y2 y3))
 | 0 => fun _ _ _ _ r h => by simp [spec_l2Kids.l0] at h
 | k + 1 => by
  have ih0 := spec_l2Kids.mono_l k
  ·
   intro y0 y1 y2 y3
   unfold spec_l2Kids.l0
   with_reducible repeat' first | exact ih0 _ _ _ _ | exact spec_l1Last.mono _ _ | exact spec_l1Parent.mono _ _ | exact LeO.refl _ | exact LeO.none _ | refine LeO.ite ?_ ?_ | refine LeO.bind ?_ (fun _ => ?_)
theorem spec_l2Kids.mono : ∀ a0 a1 k, LeO (spec_l2Kids.f k a0 a1) (spec_l2Kids.f (k + 1) a0 a1) := by
 intro a0 a1 k
 have ih0 := spec_l2Kids.mono_l k
 unfold spec_l2Kids.f
 with_reducible repeat' first | exact ih0 _ _ _ _ | exact spec_l1Last.mono _ _ | exact spec_l1Parent.mono _ _ | exact LeO.refl _ | exact LeO.none _ | refine LeO.ite ?_ ?_ | refine LeO.bind ?_ (fun _ => ?_)
theorem spec_l2Kids.calls (k : Nat) (A0 : Option Addr) (c0 : Nat) (l0 : List (S32)) (a1 : ByteArray) (r : List ByteArray) (w : World) (hr0 : Kd.C k32 w A0 l0.length l0) (hc0 : l0.length ≤ c0) (h : spec_l2Kids.f k l0 a1 = some r) :
  Calls Tryd.prog 67 #[.slice A0 l0.length c0, .string a1] w fun e w' => ∃ v0_ : Value, e = .returned (v0_) ∧ Kd.R Kd.string 9 w' w.heap.size (fun _ => True) v0_ r ∧ Below w.heap.size w w' := by
 have HR0 := aa hr0
 have HC0 := aa hc0
 clear hr0 hc0
 have HB := aa (Below.refl w.heap.size w)
 have H : (spec_l2Kids.l0 k l0 a1 (([] : List ByteArray)) 0) = some r := h
 clear h
 obtain ⟨y101, hy101⟩ : ∃ y_ : List ByteArray, y_ = (([] : List ByteArray)) := ⟨_, rfl⟩
 replace H : (spec_l2Kids.l0 k l0 a1 y101 0) = some r := by cases hy101; exact H
 have Ny101 := aa hy101
 clear hy101
 have H' := aa H
 clear H
 go_enter Tryd.func67, Tryd.ntmps67
 go_wp2_with (first | ((with_reducible refine gate_dst (N := 8) rfl ?_); refine Kd.R_lit Kd.string _ 9 ?hg (N := 8) ?hd (xs := ([] : List ByteArray)) (inner := []) (ok := fun _ => True) (okp := fun _ => True) ?hr ?hp (fun _ hk => hk) trivial (Below.refl _ _) (Nat.le_refl _) (by simp) ?_; (case hd => rfl); (case hg => rfl); (case hr => exact zhlgcp); (case hp => exact (Reps.none _ _)); intro v102 w3 ho4 hb hg_ hnew_; clear hg_ hnew_; (first | rw [← Ny101.out] at ho4 | (simp only [Int.reduceToNat] at ho4; rw [← Ny101.out] at ho4)); have HO103 := aa (Kd.R_lower ho4 (below_size zjjbob)); replace HB := aa (below_step zjjbob hb); clear hb ho4))
 go_loopg [5, 6] k (fun kq v5 v6 w' => ∃ (x5_1 : List ByteArray) (x6_1 : Int), v6 = .int .i64 x6_1 ∧ Aside0 (spec_l2Kids.l0 kq l0 a1 x5_1 x6_1 = some r) ∧ Aside0 (kq ≤ k) ∧ Aside0 (Kd.R Kd.string 9 w' w.heap.size (fun _ => True) v5 x5_1) ∧ Aside0 (Below w.heap.size w w'))
 case atStart => exact ⟨(y101), (0), zagbkp, H', ⟨Nat.le_refl _⟩, ⟨zcaken HO103.out⟩, ⟨zjjbob⟩⟩
 case round =>
  clear H'
  try clear p2
  obtain ⟨x5_1, x6_1, rfl, HA, HK1, HO_5, HB⟩ := hrel
  cases gk with
  | zero => exact absurd HA.out (by simp [spec_l2Kids.l0])
  | succ k1 =>
   have H := HA.out
   clear HA
   simp only [spec_l2Kids.l0] at H
   revert H
   refine itD_ (fun c5b0 H => ?_) fun c5b0 H => ?_
   ·
    revert H
    refine itH_ fun c6b0 H => ?_
    revert H
    refine itE_ (fun c7b0 c7b1 H => ?_) fun c7b0 c7b1 H => ?_
    ·
     have H' := aa H
     clear H
     have p104 : 0 ≤ (x6_1 : Int) := of_decide_eq_true zgglam
     have q104 : x6_1 < (l0.length : Int) := of_decide_eq_true zgglam
     obtain ⟨ad104, e104, hx104_0, hx104_1, hx104_2, hx104_3, hx104_4⟩ := at_T32 HR0.out x6_1 p104 q104
     cases e104
     replace hx104_0 := pb HB.out hx104_0
     replace hx104_1 := pb HB.out hx104_1
     replace hx104_2 := pb HB.out hx104_2
     replace hx104_3 := pb HB.out hx104_3
     replace hx104_4 := pb HB.out hx104_4
     replace p104 := eq_true p104
     replace q104 := eq_true q104
     go_wp2
     go_roundg k1
     case measure => have := HK1.out; omega
     case rel => exact ⟨(x5_1), (wrap64 (x6_1 + 1)), zagbkp, H', ⟨by have := HK1.out; omega⟩, ⟨zcaken HO_5.out⟩, ⟨zjjbob⟩⟩
    revert H
    refine obs_ fun t105 A8 H => ?_
    revert H
    refine itE_ (fun c9b0 c9b1 H => ?_) fun c9b0 c9b1 H => ?_
    ·
     revert H
     refine obs_ fun t106 A10 H => ?_
     obtain ⟨ji11, hji11⟩ : ∃ j_ : Int, (wrap64 (t106 + 1)) = j_ := ⟨_, rfl⟩
     first | rw [hji11] at H | simp only [hji11] at H
     (try rw [hji11] at A8)
     (try rw [hji11] at A10)
     have hji11w : (IntKind.i64.wrap (t106 + 1)) = ji11 := (i64_w _).trans hji11
     revert H
     refine itG_ fun c12 H => ?_
     have c12b0 := eq_true c12
     have c12b1 := decide_eq_true c12
     clear c12
     revert H
     refine itG_ fun c13 H => ?_
     have c13b0 := eq_true c13
     have c13b1 := decide_eq_true c13
     clear c13
     revert H
     refine itG_ fun c14 H => ?_
     have LMc14 := aa c14
     clear c14
     obtain ⟨y107, hy107⟩ : ∃ y_ : List ByteArray, y_ = (x5_1 ++ [((rd_T32 l0 x6_1).f0).extract ((ji11) : Int).toNat ((rd_T32 l0 x6_1).f0).size]) := ⟨_, rfl⟩
     replace H : (spec_l2Kids.l0 k1 l0 a1 y107 (wrap64 (x6_1 + 1))) = some r := by cases hy107; exact H
     have Ny107 := aa hy107
     clear hy107
     have H' := aa H
     clear H
     have p104 : 0 ≤ (x6_1 : Int) := of_decide_eq_true zgglam
     have q104 : x6_1 < (l0.length : Int) := of_decide_eq_true zgglam
     obtain ⟨ad104, e104, hx104_0, hx104_1, hx104_2, hx104_3, hx104_4⟩ := at_T32 HR0.out x6_1 p104 q104
     cases e104
     replace hx104_0 := pb HB.out hx104_0
     replace hx104_1 := pb HB.out hx104_1
     replace hx104_2 := pb HB.out hx104_2
     replace hx104_3 := pb HB.out hx104_3
     replace hx104_4 := pb HB.out hx104_4
     replace p104 := eq_true p104
     replace q104 := eq_true q104
     go_wp2_with (first | (go_at_call 75; (with_reducible refine (spec_l1Parent.calls k1 ((rd_T32 l0 x6_1).f0) t105 _ A8.out).mono ?_); rintro e w' ⟨rfl, ⟨nd, rfl⟩⟩) | (refine gc_ Tryd.func76 (some 31) #[.string ((rd_T32 l0 x6_1).f0)] ?_; (with_reducible refine (spec_l1Last.calls k1 ((rd_T32 l0 x6_1).f0) t106 _ A10.out).mono ?_); rintro e w' ⟨rfl, ⟨nd, rfl⟩⟩; refine ⟨_, rfl, ?_⟩) | ((with_reducible refine gate_builtin (b := .append) (xs := #[.tmp 28, .tmp 34]) rfl ?_); at_builtin; refine Kd.R_append Kd.string (w0 := w) w.heap.size rfl (.tmp 28) (.tmp 34) 38 9 (.string ⟨#[]⟩) 16 rfl Tryd.underlying38 info9 rfl (by decide) (by omega) u5 x5_1 (((rd_T32 l0 x6_1).f0).extract ((ji11) : Int).toNat ((rd_T32 l0 x6_1).f0).size) [.string (((rd_T32 l0 x6_1).f0).extract ((ji11) : Int).toNat ((rd_T32 l0 x6_1).f0).size)] (fun _ => True) (fun _ => False) rfl rfl ?aP (fun _ hk => hk.elim) ?aF ?aO ?aB ?aS ?aL ?_; (case aP => exact rfl); (case aB => exact zjjbob); (case aF => exact (fun _ _ => trivial)); (case aO => exact (zcaken HO_5.out)); (case aS => exact (below_size zjjbob)); (case aL => have := LMc14.out; omega); intro v108 w15 ho hb hg hat; rw [← Ny107.out] at ho; replace HB := aa (hb); have HO109 := aa (ho); clear HO_5; clear ho hb hg hat))
     go_roundg k1
     case measure => have := HK1.out; omega
     case rel => exact ⟨(y107), (wrap64 (x6_1 + 1)), zagbkp, H', ⟨by have := HK1.out; omega⟩, ⟨zcaken HO109.out⟩, ⟨zjjbob⟩⟩
    have H' := aa H
    clear H
    have p104 : 0 ≤ (x6_1 : Int) := of_decide_eq_true zgglam
    have q104 : x6_1 < (l0.length : Int) := of_decide_eq_true zgglam
    obtain ⟨ad104, e104, hx104_0, hx104_1, hx104_2, hx104_3, hx104_4⟩ := at_T32 HR0.out x6_1 p104 q104
    cases e104
    replace hx104_0 := pb HB.out hx104_0
    replace hx104_1 := pb HB.out hx104_1
    replace hx104_2 := pb HB.out hx104_2
    replace hx104_3 := pb HB.out hx104_3
    replace hx104_4 := pb HB.out hx104_4
    replace p104 := eq_true p104
    replace q104 := eq_true q104
    go_wp2_with (first | (go_at_call 75; (with_reducible refine (spec_l1Parent.calls k1 ((rd_T32 l0 x6_1).f0) t105 _ A8.out).mono ?_); rintro e w' ⟨rfl, ⟨nd, rfl⟩⟩))
    go_roundg k1
    case measure => have := HK1.out; omega
    case rel => exact ⟨(x5_1), (wrap64 (x6_1 + 1)), zagbkp, H', ⟨by have := HK1.out; omega⟩, ⟨zcaken HO_5.out⟩, ⟨zjjbob⟩⟩
   ·
    obtain rfl := Option.some.inj H
    go_wp2
    go_ret
    exact ⟨_, zlhpib, zcaken HO_5.out, zjjbob⟩
def spec_l2Delete.j0 : Nat → List (S32) → ByteArray → Int → Bool → Option (Int × ByteArray × (List (S32)))
 | 0, _, _, _, _ => none
 | k + 1, x0, x1, x7, x28 => if x28 = true then ((spec_l2Bad.f 7).bind fun bt114 => (some (bt114.1, bt114.2.1, bt114.2.2))) else ((spec_l2Kids.f k x0 x1).bind fun t119 => (if (t119.length : Int) > 0 then ((spec_l2Bad.f 8).bind fun bt122 => (some (bt122.1, bt122.2.1, bt122.2.2))) else ((some (([] : List (S32)) : List (S32))).bind fun y127 => (if 0 ≤ x7 then (if x7 ≤ (x0.length : Int) then ((some (x0.take (x7 : Int).toNat : List (S32))).bind fun y130 => (if y127.length + y130.length < 2932031007402 then ((some (y127 ++ y130 : List (S32))).bind fun y134 => (if 0 ≤ (wrap64 (x7 + 1)) then (if (wrap64 (x7 + 1)) ≤ (x0.length : Int) then ((some (x0.drop ((wrap64 (x7 + 1)) : Int).toNat : List (S32))).bind fun y137 => (if y134.length + y137.length < 2932031007402 then (some (0, (⟨#[]⟩ : ByteArray), (y134 ++ y137))) else (none))) else (none)) else (none))) else (none))) else (none)) else (none)))))
def spec_l2Delete.f (k : Nat) (l0 : List (S32)) (a1 : ByteArray) (a2 : Int) : Option (Int × ByteArray × (List (S32))) := if a1.toList = ([47] : List UInt8) then ((spec_l2Bad.f 1).bind fun bt102 => (some (bt102.1, bt102.2.1, bt102.2.2))) else ((spec_l2At.f k l0 a1).bind fun t107 => (if t107 < 0 then ((spec_l2Bad.f 4).bind fun bt108 => (some (bt108.1, bt108.2.1, bt108.2.2))) else (if a2 = (-1) then (spec_l2Delete.j0 k l0 a1 t107 false) else (if 0 ≤ t107 then (if t107 < (l0.length : Int) then (spec_l2Delete.j0 k l0 a1 t107 (a2 != ((rd_T32 l0 t107).f2))) else (none)) else (none)))))
theorem spec_l2Delete.mono_l : ∀ k, (∀ y0 y1 y2 y3, LeO (spec_l2Delete.j0 k y0 y1 y2 y3) (spec_l2Delete.j0 (k + 1) y0 y1 y2 y3))
 | 0 => fun _ _ _ _ r h => by simp [spec_l2Delete.j0] at h
 | k + 1 => by
  have ih0 := spec_l2Delete.mono_l k
  ·
   intro y0 y1 y2 y3
   unfold spec_l2Delete.j0
   with_reducible repeat' first | exact ih0 _ _ _ _ | exact spec_l2At.mono _ _ _ | exact spec_l2Kids.mono _ _ _ | exact LeO.refl _ | exact LeO.none _ | refine LeO.ite ?_ ?_ | refine LeO.bind ?_ (fun _ => ?_)
theorem spec_l2Delete.mono : ∀ a0 a1 a2 k, LeO (spec_l2Delete.f k a0 a1 a2) (spec_l2Delete.f (k + 1) a0 a1 a2) := by
 intro a0 a1 a2 k
 have ih0 := spec_l2Delete.mono_l k
 unfold spec_l2Delete.f
 with_reducible repeat' first | exact ih0 _ _ _ _ | exact spec_l2At.mono _ _ _ | exact spec_l2Kids.mono _ _ _ | exact LeO.refl _ | exact LeO.none _ | refine LeO.ite ?_ ?_ | refine LeO.bind ?_ (fun _ => ?_)
theorem spec_l2Delete.calls (k : Nat) (A0 : Option Addr) (c0 : Nat) (l0 : List (S32)) (a1 : ByteArray) (a2 : Int) (r1 : Int) (r2 : ByteArray) (r3 : List (S32)) (w : World) (hr0 : Kd.C k32 w A0 l0.length l0) (hc0 : l0.length ≤ c0) (h : spec_l2Delete.f k l0 a1 a2 = some (r1, r2, r3)) :
  Calls Tryd.prog 41 #[.slice A0 l0.length c0, .string a1, .int .i64 a2] w fun e w' => ∃ v2_ : Value, e = .returned (.agg #[.int .i64 r1, .string r2, v2_]) ∧ Kd.R k32 32 w' w.heap.size (fun _ => True) v2_ r3 ∧ Below w.heap.size w w' := by
 have hu28 := Tryd.underlying28
 have HR0 := aa hr0
 have HC0 := aa hc0
 clear hr0 hc0
 have HB := aa (Below.refl w.heap.size w)
 have H : (if a1.toList = ([47] : List UInt8) then ((spec_l2Bad.f 1).bind fun bt102 => (some (bt102.1, bt102.2.1, bt102.2.2))) else ((spec_l2At.f k l0 a1).bind fun t107 => (if t107 < 0 then ((spec_l2Bad.f 4).bind fun bt108 => (some (bt108.1, bt108.2.1, bt108.2.2))) else (if a2 = (-1) then (spec_l2Delete.j0 k l0 a1 t107 false) else (if 0 ≤ t107 then (if t107 < (l0.length : Int) then (spec_l2Delete.j0 k l0 a1 t107 (a2 != ((rd_T32 l0 t107).f2))) else (none)) else (none)))))) = some (r1, r2, r3) := h
 clear h
 revert H
 refine itE_ (fun c4b0 c4b1 H => ?_) fun c4b0 c4b1 H => ?_
 ·
  revert H
  refine ob3_ fun t102 t103 t104 A5 H => ?_
  (try dsimp only at H)
  simp only [Option.some.injEq, Prod.mk.injEq] at H
  obtain ⟨rfl, rfl, rfl⟩ := H
  go_enter Tryd.func41, Tryd.ntmps41
  go_wp2_with (first | (refine be_ 6 #[.int .i64 0, .string (⟨#[]⟩ : ByteArray), .slice none 0 0] 28 ?_; intro gb101 hg w6 hbox hb; have n0_ := aa (below_step zjjbob hb); have n1_ := aa (hbox); have n2_ := aa ((zkpfjp : w.heap.size ≤ gb101)); have n3_ := aa ((zkpfjp : w.heap.size ≤ gb101)); clear HB; have HB := n0_; have BK101 := n1_; have GW101 := n2_; have GE101 := n3_; clear n0_ n1_ n2_ n3_; clear hb hbox hg) | (refine gc_ Tryd.func34 (some 11) #[.int .i64 1] ?_; (with_reducible refine (spec_l2Bad.calls 1 t102 t103 t104 _ A5.out).mono ?_); rintro e w7 ⟨v105, rfl, ho0, hb⟩; refine ⟨_, rfl, ?_⟩; have HO106 := aa (Kd.R_lower ho0 (below_size zkmbdh)); replace BK101 := aa (bb_ BK101.out hb); replace HB := aa (below_step zkmbdh hb); (try clear hb hk hi ho0); obtain ⟨hcz8_0, hcz8_1, hcz8_2, hfz8_0, hfz8_1, hfz8_2⟩ := blk3_ BK101.out; obtain ⟨Ao9, co9, eo9⟩ := Kd.R_slice HO106.out; subst eo9))
  refine bodyPost_ret (results_cell_row rfl _ _ gb101 28 #[.int .i64 t102, .string t103, .slice Ao9 t104.length co9] (0, 0) _ rfl (by (with_reducible repeat (first | refine blk_drewN ?_ _ | refine blk_drew ?_ | refine blk_alloc ?_ _)); refine blk_put (cs := #[.int .i64 t102, .string t103, .slice none 0 0]) ?_ 2 _ rfl; (with_reducible repeat (first | refine blk_drewN ?_ _ | refine blk_drew ?_ | refine blk_alloc ?_ _)); refine blk_put (cs := #[.int .i64 t102, .string (⟨#[]⟩ : ByteArray), .slice none 0 0]) ?_ 1 _ rfl; (with_reducible repeat (first | refine blk_drewN ?_ _ | refine blk_drew ?_ | refine blk_alloc ?_ _)); refine blk_put (cs := #[.int .i64 0, .string (⟨#[]⟩ : ByteArray), .slice none 0 0]) ?_ 0 _ rfl; (with_reducible repeat (first | refine blk_drewN ?_ _ | refine blk_drew ?_ | refine blk_alloc ?_ _)); exact BK101.out) Tryd.underlying28 rfl (by kernel_rfl)) rfl ?_
  exact ⟨_, zlhpib, by (with_reducible repeat (first | apply Kd.R_alloc | apply Kd.R_drewN | apply Kd.R_drew)); exact Kd.R_mono (Kd.R_far (p := ⟨gb101, 2, none⟩) (Kd.R_far (p := ⟨gb101, 1, none⟩) (Kd.R_far (p := ⟨gb101, 0, none⟩) (Kd.R_types HO106.out BK101.out (by decide)) (fun _ hk => hk.2) (.int .i64 t102)) (fun _ hk => hk.2) (.string t103)) (fun _ hk => hk.2) (.slice Ao9 t104.length co9)) (fun _ hk => trivial), zkmbdh⟩
 revert H
 refine obs_ fun t107 A10 H => ?_
 revert H
 refine itD_ (fun c11b0 H => ?_) fun c11b0 H => ?_
 ·
  revert H
  refine ob3_ fun t108 t109 t110 A12 H => ?_
  (try dsimp only at H)
  simp only [Option.some.injEq, Prod.mk.injEq] at H
  obtain ⟨rfl, rfl, rfl⟩ := H
  go_enter Tryd.func41, Tryd.ntmps41
  go_wp2_with (first | (refine be_ 6 #[.int .i64 0, .string (⟨#[]⟩ : ByteArray), .slice none 0 0] 28 ?_; intro gb101 hg w13 hbox hb; have n0_ := aa (below_step zjjbob hb); have n1_ := aa (hbox); have n2_ := aa ((zkpfjp : w.heap.size ≤ gb101)); have n3_ := aa ((zkpfjp : w.heap.size ≤ gb101)); clear HB; have HB := n0_; have BK101 := n1_; have GW101 := n2_; have GE101 := n3_; clear n0_ n1_ n2_ n3_; clear hb hbox hg) | (refine gc_ Tryd.func64 (some 14) #[.slice A0 l0.length c0, .string a1] ?_; (with_reducible refine (spec_l2At.calls k _ _ l0 a1 t107 _ zfmbgg HC0.out A10.out).mono ?_); rintro e w' ⟨rfl, ⟨nd, rfl⟩⟩; refine ⟨_, rfl, ?_⟩; (try (rw [drewN_self w13]; generalize hq_ : World.drewN w13 _ = w13; have n0_ : Aside0 (w13.heap[gb101]? = some (.cells #[.int .i64 0, .string (⟨#[]⟩ : ByteArray), .slice none 0 0] 28 (0, 0))) := ⟨by rw [← hq_]; exact (zkjhpm BK101.out)⟩; have n1_ : Aside0 (Below w.heap.size w w13) := ⟨by rw [← hq_]; exact zkmbdh⟩; clear BK101 HB hq_; have BK101 := n0_; have HB := n1_; clear n0_ n1_))) | (refine gc_ Tryd.func34 (some 17) #[.int .i64 4] ?_; (with_reducible refine (spec_l2Bad.calls 4 t108 t109 t110 _ A12.out).mono ?_); rintro e w14 ⟨v111, rfl, ho0, hb⟩; refine ⟨_, rfl, ?_⟩; have HO112 := aa (Kd.R_lower ho0 (below_size zkmbdh)); replace BK101 := aa (bb_ BK101.out hb); replace HB := aa (below_step zkmbdh hb); (try clear hb hk hi ho0); obtain ⟨hcz15_0, hcz15_1, hcz15_2, hfz15_0, hfz15_1, hfz15_2⟩ := blk3_ BK101.out; obtain ⟨Ao16, co16, eo16⟩ := Kd.R_slice HO112.out; subst eo16))
  refine bodyPost_ret (results_cell_row rfl _ _ gb101 28 #[.int .i64 t108, .string t109, .slice Ao16 t110.length co16] (0, 0) _ rfl zmdafi Tryd.underlying28 rfl (by kernel_rfl)) rfl ?_
  exact ⟨_, zlhpib, by (with_reducible repeat (first | apply Kd.R_alloc | apply Kd.R_drewN | apply Kd.R_drew)); exact Kd.R_mono (Kd.R_far (p := ⟨gb101, 2, none⟩) (Kd.R_far (p := ⟨gb101, 1, none⟩) (Kd.R_far (p := ⟨gb101, 0, none⟩) (Kd.R_types HO112.out BK101.out (by decide)) (fun _ hk => hk.2) (.int .i64 t108)) (fun _ hk => hk.2) (.string t109)) (fun _ hk => hk.2) (.slice Ao16 t110.length co16)) (fun _ hk => trivial), zkmbdh⟩
 have HC17 := aa H
 clear H
 go_enter Tryd.func41, Tryd.ntmps41
 go_upto_region 6 with (first | (refine be_ 6 #[.int .i64 0, .string (⟨#[]⟩ : ByteArray), .slice none 0 0] 28 ?_; intro gb101 hg w18 hbox hb; have n0_ := aa (below_step zjjbob hb); have n1_ := aa (hbox); have n2_ := aa ((zkpfjp : w.heap.size ≤ gb101)); have n3_ := aa ((zkpfjp : w.heap.size ≤ gb101)); clear HB; have HB := n0_; have BK101 := n1_; have GW101 := n2_; have GE101 := n3_; clear n0_ n1_ n2_ n3_; clear hb hbox hg) | (refine gc_ Tryd.func64 (some 14) #[.slice A0 l0.length c0, .string a1] ?_; (with_reducible refine (spec_l2At.calls k _ _ l0 a1 t107 _ zfmbgg HC0.out A10.out).mono ?_); rintro e w' ⟨rfl, ⟨nd, rfl⟩⟩; refine ⟨_, rfl, ?_⟩))
 (try simp only [Act.put, List.setIfInBounds_toArray, List.set_cons_zero, List.set_cons_succ])
 go_cut [28] (fun v28 wc => ∃ (kq : Nat) (x28_16 : Bool), v28 = .bool x28_16 ∧ Aside0 (spec_l2Delete.j0 kq l0 a1 t107 x28_16 = some (r1, r2, r3)) ∧ Aside0 (kq ≤ k) ∧ Aside0 (wc.heap[gb101]? = some (.cells #[.int .i64 0, .string (⟨#[]⟩ : ByteArray), (.slice none 0 0)] 28 (0, 0))) ∧ Aside0 (Below w.heap.size w wc))
 case first =>
  have H := HC17.out
  clear HC17
  revert H
  refine itE_ (fun c19b0 c19b1 H => ?_) fun c19b0 c19b1 H => ?_
  ·
   (first | rw [c19b0] | (simp only [i64_w, i32_w]; rw [c19b0]) | (simp only [c19b2, Bool.not_false, Bool.not_true]) | skip)
   have H' := aa H
   clear H
   go_wp2
   go_meet
   case rel => exact ⟨_, (false), zagbkp, H', ⟨zpacfg⟩, ⟨zkjhpm BK101.out⟩, ⟨zkmbdh⟩⟩
  (first | rw [c19b0] | (simp only [i64_w, i32_w]; rw [c19b0]) | (simp only [c19b2, Bool.not_false, Bool.not_true]) | skip)
  revert H
  refine itH_ fun c20b0 H => ?_
  revert H
  refine itH_ fun c21b0 H => ?_
  have H' := aa H
  clear H
  have p113 : 0 ≤ (t107 : Int) := of_decide_eq_true zgglam
  have q113 : t107 < (l0.length : Int) := of_decide_eq_true zgglam
  obtain ⟨ad113, e113, hx113_0, hx113_1, hx113_2, hx113_3, hx113_4⟩ := at_T32 HR0.out t107 p113 q113
  cases e113
  replace hx113_0 := pb HB.out hx113_0
  replace hx113_1 := pb HB.out hx113_1
  replace hx113_2 := pb HB.out hx113_2
  replace hx113_3 := pb HB.out hx113_3
  replace hx113_4 := pb HB.out hx113_4
  replace p113 := eq_true p113
  replace q113 := eq_true q113
  go_wp2
  go_meet
  case rel => exact ⟨_, ((a2 != ((rd_T32 l0 t107).f2))), zagbkp, H', ⟨zpacfg⟩, ⟨zkjhpm BK101.out⟩, ⟨zkmbdh⟩⟩
 case rest =>
  clear HC17
  try clear p1
  try clear q1
  try clear hx1
  try clear p2
  try clear c4b0
  try clear c4b1
  try clear c11b0
  try clear p11
  try clear q11
  try clear hx11
  try clear c19b0
  try clear c19b1
  try clear c19b2
  try clear c20b0
  try clear c21b0
  try clear hcz15_0
  try clear hcz15_1
  try clear hcz15_2
  try clear hcz8_0
  try clear hcz8_1
  try clear hcz8_2
  try clear hfz15_0
  try clear hfz15_1
  try clear hfz15_2
  try clear hfz8_0
  try clear hfz8_1
  try clear hfz8_2
  try clear hx113_0
  try clear hx113_1
  try clear hx113_2
  try clear hx113_3
  try clear hx113_4
  try clear p113
  try clear q113
  obtain ⟨kq, x28_16, rfl, HA, HJ16, BK101, HB⟩ := hcut
  cases kq with
  | zero => exact absurd HA.out (by simp [spec_l2Delete.j0])
  | succ kj16 =>
   have H := HA.out
   clear HA
   simp only [spec_l2Delete.j0] at H
   by_cases c22 : x28_16 = true
   ·
    subst c22
    rw [if_pos rfl] at H
    revert H
    refine ob3_ fun t114 t115 t116 A23 H => ?_
    (try dsimp only at H)
    simp only [Option.some.injEq, Prod.mk.injEq] at H
    obtain ⟨rfl, rfl, rfl⟩ := H
    go_wp2_with (first | (refine gc_ Tryd.func34 (some 29) #[.int .i64 7] ?_; (with_reducible refine (spec_l2Bad.calls 7 t114 t115 t116 _ A23.out).mono ?_); rintro e w24 ⟨v117, rfl, ho0, hb⟩; refine ⟨_, rfl, ?_⟩; have HO118 := aa (Kd.R_lower ho0 (below_size zkmbdh)); replace BK101 := aa (bb_ BK101.out hb); replace HB := aa (below_step zkmbdh hb); (try clear hb hk hi ho0); obtain ⟨hcz25_0, hcz25_1, hcz25_2, hfz25_0, hfz25_1, hfz25_2⟩ := blk3_ BK101.out; obtain ⟨Ao26, co26, eo26⟩ := Kd.R_slice HO118.out; subst eo26))
    refine bodyPost_ret (results_cell_row rfl _ _ gb101 28 #[.int .i64 t114, .string t115, .slice Ao26 t116.length co26] (0, 0) _ rfl (by (with_reducible repeat (first | refine blk_drewN ?_ _ | refine blk_drew ?_ | refine blk_alloc ?_ _)); refine blk_put (cs := #[.int .i64 t114, .string t115, .slice none 0 0]) ?_ 2 _ rfl; (with_reducible repeat (first | refine blk_drewN ?_ _ | refine blk_drew ?_ | refine blk_alloc ?_ _)); refine blk_put (cs := #[.int .i64 t114, .string (⟨#[]⟩ : ByteArray), .slice none 0 0]) ?_ 1 _ rfl; (with_reducible repeat (first | refine blk_drewN ?_ _ | refine blk_drew ?_ | refine blk_alloc ?_ _)); refine blk_put (cs := #[.int .i64 0, .string (⟨#[]⟩ : ByteArray), .slice none 0 0]) ?_ 0 _ rfl; (with_reducible repeat (first | refine blk_drewN ?_ _ | refine blk_drew ?_ | refine blk_alloc ?_ _)); exact BK101.out) Tryd.underlying28 rfl (by kernel_rfl)) rfl ?_
    exact ⟨_, zlhpib, by (with_reducible repeat (first | apply Kd.R_alloc | apply Kd.R_drewN | apply Kd.R_drew)); exact Kd.R_mono (Kd.R_far (p := ⟨gb101, 2, none⟩) (Kd.R_far (p := ⟨gb101, 1, none⟩) (Kd.R_far (p := ⟨gb101, 0, none⟩) (Kd.R_types HO118.out BK101.out (by decide)) (fun _ hk => hk.2) (.int .i64 t114)) (fun _ hk => hk.2) (.string t115)) (fun _ hk => hk.2) (.slice Ao26 t116.length co26)) (fun _ hk => trivial), zkmbdh⟩
   ·
    replace c22 := Bool.eq_false_iff.mpr c22
    subst c22
    rw [if_neg fT_] at H
    revert H
    refine obs_ fun t119 A27 H => ?_
    revert H
    refine itC_ (fun c28 H => ?_) fun c28 H => ?_
    ·
     have c28b0 : decide (0 < (t119.length : Int)) = true := decide_eq_true c28
     have c28b1 : decide (0 < t119.length) = true := decide_eq_true (by omega)
     clear c28
     revert H
     refine ob3_ fun t122 t123 t124 A29 H => ?_
     (try dsimp only at H)
     simp only [Option.some.injEq, Prod.mk.injEq] at H
     obtain ⟨rfl, rfl, rfl⟩ := H
     go_wp2_with (first | (refine gc_ Tryd.func67 (some 32) #[.slice A0 l0.length c0, .string a1] ?_; (with_reducible refine (spec_l2Kids.calls kj16 _ _ l0 a1 t119 _ zfmbgg HC0.out A27.out).mono ?_); rintro e w30 ⟨v120, rfl, ho0, hb⟩; refine ⟨_, rfl, ?_⟩; have HO121 := aa (Kd.R_lower ho0 (below_size zkmbdh)); replace BK101 := aa (bb_ BK101.out hb); replace HB := aa (below_step zkmbdh hb); (try clear hb hk hi ho0); obtain ⟨Ao31, co31, eo31⟩ := Kd.R_slice HO121.out; subst eo31) | (refine gc_ Tryd.func34 (some 35) #[.int .i64 8] ?_; (with_reducible refine (spec_l2Bad.calls 8 t122 t123 t124 _ A29.out).mono ?_); rintro e w32 ⟨v125, rfl, ho0, hb⟩; refine ⟨_, rfl, ?_⟩; replace HO121 := aa (Kd.R_below (zcaken HO121.out) hb); have HO126 := aa (Kd.R_lower ho0 (below_size zkmbdh)); replace BK101 := aa (bb_ BK101.out hb); replace HB := aa (below_step zkmbdh hb); (try clear hb hk hi ho0); obtain ⟨hcz33_0, hcz33_1, hcz33_2, hfz33_0, hfz33_1, hfz33_2⟩ := blk3_ BK101.out; obtain ⟨Ao34, co34, eo34⟩ := Kd.R_slice HO126.out; subst eo34))
     refine bodyPost_ret (results_cell_row rfl _ _ gb101 28 #[.int .i64 t122, .string t123, .slice Ao34 t124.length co34] (0, 0) _ rfl zmnjfm Tryd.underlying28 rfl (by kernel_rfl)) rfl ?_
     exact ⟨_, zlhpib, by (with_reducible repeat (first | apply Kd.R_alloc | apply Kd.R_drewN | apply Kd.R_drew)); exact Kd.R_mono (Kd.R_far (p := ⟨gb101, 2, none⟩) (Kd.R_far (p := ⟨gb101, 1, none⟩) (Kd.R_far (p := ⟨gb101, 0, none⟩) (Kd.R_types HO126.out BK101.out (by decide)) (fun _ hk => hk.2) (.int .i64 t122)) (fun _ hk => hk.2) (.string t123)) (fun _ hk => hk.2) (.slice Ao34 t124.length co34)) (fun _ hk => trivial), zkmbdh⟩
    have c28b0 : decide (0 < (t119.length : Int)) = false := decide_eq_false c28
    have c28b1 : decide (0 < t119.length) = false := decide_eq_false (by omega)
    clear c28
    revert H
    refine obl_ fun y127 Ny127 H => ?_
    revert H
    refine itG_ fun c35 H => ?_
    have c35b0 := eq_true c35
    have c35b1 := decide_eq_true c35
    clear c35
    revert H
    refine itG_ fun c36 H => ?_
    have c36b0 := eq_true c36
    have c36b1 := decide_eq_true c36
    clear c36
    revert H
    refine obl_ fun y130 Ny130 H => ?_
    revert H
    refine itG_ fun c37 H => ?_
    have LMc37 := aa c37
    clear c37
    revert H
    refine obl_ fun y134 Ny134 H => ?_
    obtain ⟨ji38, hji38⟩ : ∃ j_ : Int, (wrap64 (t107 + 1)) = j_ := ⟨_, rfl⟩
    first | rw [hji38] at H | simp only [hji38] at H
    (try rw [hji38] at A27)
    have hji38w : (IntKind.i64.wrap (t107 + 1)) = ji38 := (i64_w _).trans hji38
    revert H
    refine itG_ fun c39 H => ?_
    have c39b0 := eq_true c39
    have c39b1 := decide_eq_true c39
    clear c39
    revert H
    refine itG_ fun c40 H => ?_
    have c40b0 := eq_true c40
    have c40b1 := decide_eq_true c40
    clear c40
    revert H
    refine obl_ fun y137 Ny137 H => ?_
    revert H
    refine itG_ fun c41 H => ?_
    have LMc41 := aa c41
    clear c41
    obtain ⟨y141, hy141⟩ : ∃ y_ : List (S32), y_ = (y134 ++ y137) := ⟨_, rfl⟩
    replace H : (some (0, (⟨#[]⟩ : ByteArray), y141)) = some (r1, r2, r3) := by cases hy141; exact H
    have Ny141 := aa hy141
    clear hy141
    simp only [Option.some.injEq, Prod.mk.injEq] at H
    obtain ⟨rfl, rfl, rfl⟩ := H
    go_wp2_with (first | (refine gc_ Tryd.func67 (some 32) #[.slice A0 l0.length c0, .string a1] ?_; (with_reducible refine (spec_l2Kids.calls kj16 _ _ l0 a1 t119 _ zfmbgg HC0.out A27.out).mono ?_); rintro e w42 ⟨v120, rfl, ho0, hb⟩; refine ⟨_, rfl, ?_⟩; have HO121 := aa (Kd.R_lower ho0 (below_size zkmbdh)); replace BK101 := aa (bb_ BK101.out hb); replace HB := aa (below_step zkmbdh hb); (try clear hb hk hi ho0); obtain ⟨Ao43, co43, eo43⟩ := Kd.R_slice HO121.out; subst eo43) | ((with_reducible refine gate_dst (N := 36) rfl ?_); refine Kd.R_lit k32 _ 32 ?hg (N := 36) ?hd (xs := ([] : List (S32))) (inner := []) (ok := fun _ => True) (okp := fun _ => True) ?hr ?hp (fun _ hk => hk) trivial (Below.refl _ _) (Nat.le_refl _) (by simp) ?_; (case hd => rfl); (case hg => rfl); (case hr => exact zhlgcp); (case hp => exact (Reps.none _ _)); intro v128 w44 ho45 hb hg_ hnew_; clear hg_ hnew_; (first | rw [← Ny127.out] at ho45 | (simp only [Int.reduceToNat] at ho45; rw [← Ny127.out] at ho45)); replace HO121 := aa (Kd.R_below (zcaken HO121.out) hb); have HO129 := aa (Kd.R_lower ho45 (below_size zkmbdh)); replace BK101 := aa (bb_ BK101.out hb); replace HB := aa (below_step zkmbdh hb); clear hb ho45; have q46 : (t107 : Int) ≤ ((l0.length : Int) : Int) := of_decide_eq_true zgglam; obtain ⟨i046, hi046, _, hsz46, _⟩ := info_parts info32; have hroom46 : l0.length ≤ c0 := HC0.out; have hC46 : Kd.C k32 _ A0 l0.length l0 := HR0.out; have hcut46 := cut_to (P := Tryd.prog) 24 32 .i64 Tryd.underlying24 hi046 A0 l0.length c0 t107 (of_decide_eq_true zgglam) q46 hroom46; have hr46 := Kd.C_take (m := (t107 : Int).toNat) hC46 (by omega); have hy46 : y130.length = (t107 : Int).toNat := (by rw [Ny130.out, List.length_take]; omega); rw [← Ny130.out] at hr46; rw [← hy46] at hcut46; have HR133 := aa hr46; have HC133 := aa (show y130.length ≤ c0 from by omega); clear hr46 hC46 hroom46 hi046 hsz46; have KY46 := aa hy46; clear hy46; replace q46 := eq_true q46) | ((with_reducible refine gate_builtin (b := .append) (xs := #[.tmp 36, .tmp 39]) rfl ?_); at_builtin; refine Kd.R_append_rows k32 (w0 := w) w.heap.size rfl (.tmp 36) (.tmp 39) 24 32 (.agg #[(.string ⟨#[]⟩), (.int .i64 0), (.int .i64 0), (.int .i64 0), (.int .i64 0)]) 48 rfl Tryd.underlying24 info32 rfl (by decide) (by omega) v128 y127 y130 _ _ _ (fun _ => True) (fun _ => False) rfl rfl ?aO ?aR (fun _ _ h => h) (fun _ h => h.elim) ?aF ?aB ?aS ?aL ?_; (case aR => repeat (first | exact (Kd.C_below HR133.out HB.out) | (with_reducible refine Kd.C_alloc ?_ _) | (with_reducible refine Kd.C_drewN ?_ _) | (with_reducible refine Kd.C_drew ?_))); (case aB => exact zkmbdh); (case aF => exact (fun _ _ => trivial)); (case aO => exact (zcaken HO129.out)); (case aS => exact (below_size zkmbdh)); (case aL => have := LMc37.out; omega); intro v135 w47 ho hb hg hat; rw [← Ny134.out] at ho; replace BK101 := aa (blk_grown (g := gb101) (o := .cells #[.int .i64 0, .string (⟨#[]⟩ : ByteArray), .slice none 0 0] 28 (0, 0)) (zkjhpm BK101.out) hg (Kd.R_ne HO129.out BK101.out (by decide))); replace HO121 := aa (Kd.R_over' (zcaken HO121.out) (Kd.R_typed (zcaken HO129.out)) (by decide) hg); replace HB := aa (hb); have HO136 := aa (ho); clear HO129; clear ho hb hg hat; have q48 : ((ji38) : Int) ≤ ((l0.length : Int) : Int) := of_decide_eq_true zgglam; obtain ⟨i048, hi048, _, hsz48, _⟩ := info_parts info32; have hroom48 : l0.length ≤ c0 := HC0.out; have hC48 : Kd.C k32 _ A0 l0.length l0 := HR0.out; have q048 : (0 : Int) ≤ ((ji38) : Int) := of_decide_eq_true zgglam; have hcut48 := cut_from (P := Tryd.prog) 24 32 .i64 Tryd.underlying24 hi048 5 hsz48 A0 l0.length c0 (ji38) q048 q48; have hr48 := Kd.C_drop (m := ((ji38) : Int).toNat) (c := c0) hC48 (by omega) hroom48; obtain ⟨A48, hA48⟩ : ∃ A1, A1 = (if c0 = ((ji38) : Int).toNat then A0 else (A0 : Option Addr).map (·.add (((ji38) : Int).toNat * 5))) := ⟨_, rfl⟩; obtain ⟨c48, hc48⟩ : ∃ c1, c1 = c0 - ((ji38) : Int).toNat := ⟨_, rfl⟩; have hy48 : y137.length = l0.length - ((ji38) : Int).toNat := (by rw [Ny137.out, List.length_drop] <;> omega); rw [show (l0).drop ((ji38) : Int).toNat = y137 from Ny137.out.symm] at hr48; replace hr48 : Kd.C k32 _ A48 y137.length y137 := (by rw [hA48]; exact hr48); rw [← hy48, ← hA48, ← hc48] at hcut48; have HR140 := aa hr48; have HC140 := aa (show y137.length ≤ c48 from by rw [hy48, hc48]; exact Nat.sub_le_sub_right hroom48 _); clear hr48 hC48 hroom48 hi048 hsz48 hc48; have KY48 := aa hy48; have KA48 := aa hA48; clear hy48 hA48; replace q48 := eq_true q48) | ((with_reducible refine gate_builtin (b := .append) (xs := #[.tmp 41, .tmp 45]) rfl ?_); at_builtin; refine Kd.R_append_rows k32 (w0 := w) w.heap.size rfl (.tmp 41) (.tmp 45) 24 32 (.agg #[(.string ⟨#[]⟩), (.int .i64 0), (.int .i64 0), (.int .i64 0), (.int .i64 0)]) 48 rfl Tryd.underlying24 info32 rfl (by decide) (by omega) v135 y134 y137 _ _ _ (fun _ => True) (fun _ => False) rfl rfl ?aO ?aR (fun _ _ h => h) (fun _ h => h.elim) ?aF ?aB ?aS ?aL ?_; (case aR => repeat (first | exact (Kd.C_below HR140.out HB.out) | (with_reducible refine Kd.C_alloc ?_ _) | (with_reducible refine Kd.C_drewN ?_ _) | (with_reducible refine Kd.C_drew ?_))); (case aB => exact zkmbdh); (case aF => exact (fun _ _ => trivial)); (case aO => exact (zcaken HO136.out)); (case aS => exact (below_size zkmbdh)); (case aL => have := LMc41.out; omega); intro v142 w49 ho hb hg hat; rw [← Ny141.out] at ho; replace BK101 := aa (blk_grown (g := gb101) (o := .cells #[.int .i64 0, .string (⟨#[]⟩ : ByteArray), .slice none 0 0] 28 (0, 0)) (zkjhpm BK101.out) hg (Kd.R_ne HO136.out BK101.out (by decide))); replace HO121 := aa (Kd.R_over' (zcaken HO121.out) (Kd.R_typed (zcaken HO136.out)) (by decide) hg); replace HB := aa (hb); have HO143 := aa (ho); clear HO136; clear ho hb hg hat; obtain ⟨Ao50, co50, eo50⟩ := Kd.R_slice HO143.out; subst eo50; obtain ⟨hcz51_0, hcz51_1, hcz51_2, hfz51_0, hfz51_1, hfz51_2⟩ := blk3_ BK101.out))
    refine bodyPost_ret (results_cell_row rfl _ _ gb101 28 #[.int .i64 0, .string (⟨#[]⟩ : ByteArray), .slice Ao50 y141.length co50] (0, 0) _ rfl zkhiid Tryd.underlying28 rfl (by kernel_rfl)) rfl ?_
    exact ⟨_, by first | rfl | (simp [errW_none, errW_some] <;> rfl) | (simp only [← hji38]; first | rfl | (simp [errW_none, errW_some] <;> rfl)) | (simp [*, errW_none, errW_some] <;> rfl), by (with_reducible repeat (first | apply Kd.R_alloc | apply Kd.R_drewN | apply Kd.R_drew)); exact Kd.R_mono (Kd.R_far (p := ⟨gb101, 2, none⟩) (Kd.R_far (p := ⟨gb101, 1, none⟩) (Kd.R_far (p := ⟨gb101, 0, none⟩) (Kd.R_types HO143.out BK101.out (by decide)) (fun _ hk => hk.2) (.int .i64 0)) (fun _ hk => hk.2) (.string (⟨#[]⟩ : ByteArray))) (fun _ hk => hk.2) (.slice Ao50 y141.length co50)) (fun _ hk => trivial), zkmbdh⟩
def spec_l1Name.l0 : Nat → ByteArray → Int → Option (Bool)
 | 0, _, _ => none
 | k + 1, x0, x3 => if x3 < (x0.size : Int) then (if 0 ≤ x3 then (if (bt x0 x3) < 97 then (if (bt x0 x3) < 48 then (some false) else (if (bt x0 x3) > 57 then (some false) else (spec_l1Name.l0 k x0 (wrap64 (x3 + 1))))) else (if (bt x0 x3) > 122 then (if (bt x0 x3) < 48 then (some false) else (if (bt x0 x3) > 57 then (some false) else (spec_l1Name.l0 k x0 (wrap64 (x3 + 1))))) else (spec_l1Name.l0 k x0 (wrap64 (x3 + 1))))) else (none)) else ((spec_l1In.f (x0.size : Int) 1 8).bind fun t101 => (some t101))
def spec_l1Name.f (k : Nat) (a0 : ByteArray) : Option (Bool) := spec_l1Name.l0 k a0 0
theorem spec_l1Name.mono_l : ∀ k, (∀ y0 y1, LeO (spec_l1Name.l0 k y0 y1) (spec_l1Name.l0 (k + 1) y0 y1))
 | 0 => fun _ _ r h => by simp [spec_l1Name.l0] at h
 | k + 1 => by
  have ih0 := spec_l1Name.mono_l k
  ·
   intro y0 y1
   unfold spec_l1Name.l0
   with_reducible repeat' first | exact ih0 _ _ | exact LeO.refl _ | exact LeO.none _ | refine LeO.ite ?_ ?_ | refine LeO.bind ?_ (fun _ => ?_)
theorem spec_l1Name.mono : ∀ a0 k, LeO (spec_l1Name.f k a0) (spec_l1Name.f (k + 1) a0) := by
 intro a0 k
 have ih0 := spec_l1Name.mono_l k
 unfold spec_l1Name.f
 with_reducible repeat' first | exact ih0 _ _ | exact LeO.refl _ | exact LeO.none _ | refine LeO.ite ?_ ?_ | refine LeO.bind ?_ (fun _ => ?_)
theorem spec_l1Name.calls (k : Nat) (a0 : ByteArray) (r : Bool) (w : World) (h : spec_l1Name.f k a0 = some r) :
  Calls Tryd.prog 56 #[.string a0] w fun e w' => e = .returned (.bool r) ∧ Drawn0 w w' := by
 have H : (spec_l1Name.l0 k a0 0) = some r := h
 clear h
 have H' := aa H
 clear H
 go_enter Tryd.func56, Tryd.ntmps56
 go_wp2
 go_loopg [3] k (fun kq v3 w' => ∃ (x3_1 : Int), v3 = .int .i64 x3_1 ∧ Aside0 (spec_l1Name.l0 kq a0 x3_1 = some r) ∧ Aside0 (kq ≤ k) ∧ Drawn0 w w')
 case atStart => exact ⟨(0), zagbkp, H', ⟨Nat.le_refl _⟩, ziajdh⟩
 case round =>
  clear H'
  obtain ⟨x3_1, rfl, HA, HK1, ⟨m1, rfl⟩⟩ := hrel
  cases gk with
  | zero => exact absurd HA.out (by simp [spec_l1Name.l0])
  | succ k1 =>
   have H := HA.out
   clear HA
   simp only [spec_l1Name.l0] at H
   revert H
   refine itD_ (fun c2b0 H => ?_) fun c2b0 H => ?_
   ·
    revert H
    refine itH_ fun c3b0 H => ?_
    revert H
    refine itD_ (fun c5b0 H => ?_) fun c5b0 H => ?_
    ·
     revert H
     refine itD_ (fun c7b0 H => ?_) fun c7b0 H => ?_
     ·
      obtain rfl := Option.some.inj H
      have p4 : 0 ≤ (x3_1 : Int) := of_decide_eq_true zgglam
      have q4 : x3_1 < (a0.size : Int) := of_decide_eq_true zgglam
      have hx4 := bt_at a0 x3_1
      replace p4 := eq_true p4
      replace q4 := eq_true q4
      have p6 : 0 ≤ (x3_1 : Int) := of_decide_eq_true zgglam
      have q6 : x3_1 < (a0.size : Int) := of_decide_eq_true zgglam
      have hx6 := bt_at a0 x3_1
      replace p6 := eq_true p6
      replace q6 := eq_true q6
      go_wp2
      go_ret
      exact ⟨zagbkp, ziajdh⟩
     revert H
     refine itC_ (fun c9 H => ?_) fun c9 H => ?_
     ·
      have c9b0 : decide (57 < (bt a0 x3_1)) = true := decide_eq_true c9
      clear c9
      obtain rfl := Option.some.inj H
      have p4 : 0 ≤ (x3_1 : Int) := of_decide_eq_true zgglam
      have q4 : x3_1 < (a0.size : Int) := of_decide_eq_true zgglam
      have hx4 := bt_at a0 x3_1
      replace p4 := eq_true p4
      replace q4 := eq_true q4
      have p6 : 0 ≤ (x3_1 : Int) := of_decide_eq_true zgglam
      have q6 : x3_1 < (a0.size : Int) := of_decide_eq_true zgglam
      have hx6 := bt_at a0 x3_1
      replace p6 := eq_true p6
      replace q6 := eq_true q6
      have p8 : 0 ≤ (x3_1 : Int) := of_decide_eq_true zgglam
      have q8 : x3_1 < (a0.size : Int) := of_decide_eq_true zgglam
      have hx8 := bt_at a0 x3_1
      replace p8 := eq_true p8
      replace q8 := eq_true q8
      go_wp2
      go_ret
      exact ⟨zagbkp, ziajdh⟩
     have c9b0 : decide (57 < (bt a0 x3_1)) = false := decide_eq_false c9
     clear c9
     have H' := aa H
     clear H
     have p4 : 0 ≤ (x3_1 : Int) := of_decide_eq_true zgglam
     have q4 : x3_1 < (a0.size : Int) := of_decide_eq_true zgglam
     have hx4 := bt_at a0 x3_1
     replace p4 := eq_true p4
     replace q4 := eq_true q4
     have p6 : 0 ≤ (x3_1 : Int) := of_decide_eq_true zgglam
     have q6 : x3_1 < (a0.size : Int) := of_decide_eq_true zgglam
     have hx6 := bt_at a0 x3_1
     replace p6 := eq_true p6
     replace q6 := eq_true q6
     have p8 : 0 ≤ (x3_1 : Int) := of_decide_eq_true zgglam
     have q8 : x3_1 < (a0.size : Int) := of_decide_eq_true zgglam
     have hx8 := bt_at a0 x3_1
     replace p8 := eq_true p8
     replace q8 := eq_true q8
     go_wp2
     go_roundg k1
     case measure => have := HK1.out; omega
     case rel => exact ⟨(wrap64 (x3_1 + 1)), zagbkp, H', ⟨by have := HK1.out; omega⟩, ziajdh⟩
    revert H
    refine itC_ (fun c11 H => ?_) fun c11 H => ?_
    ·
     have c11b0 : decide (122 < (bt a0 x3_1)) = true := decide_eq_true c11
     clear c11
     revert H
     refine itD_ (fun c13b0 H => ?_) fun c13b0 H => ?_
     ·
      obtain rfl := Option.some.inj H
      have p4 : 0 ≤ (x3_1 : Int) := of_decide_eq_true zgglam
      have q4 : x3_1 < (a0.size : Int) := of_decide_eq_true zgglam
      have hx4 := bt_at a0 x3_1
      replace p4 := eq_true p4
      replace q4 := eq_true q4
      have p10 : 0 ≤ (x3_1 : Int) := of_decide_eq_true zgglam
      have q10 : x3_1 < (a0.size : Int) := of_decide_eq_true zgglam
      have hx10 := bt_at a0 x3_1
      replace p10 := eq_true p10
      replace q10 := eq_true q10
      have p12 : 0 ≤ (x3_1 : Int) := of_decide_eq_true zgglam
      have q12 : x3_1 < (a0.size : Int) := of_decide_eq_true zgglam
      have hx12 := bt_at a0 x3_1
      replace p12 := eq_true p12
      replace q12 := eq_true q12
      go_wp2
      go_ret
      exact ⟨zagbkp, ziajdh⟩
     revert H
     refine itC_ (fun c15 H => ?_) fun c15 H => ?_
     ·
      have c15b0 : decide (57 < (bt a0 x3_1)) = true := decide_eq_true c15
      clear c15
      obtain rfl := Option.some.inj H
      have p4 : 0 ≤ (x3_1 : Int) := of_decide_eq_true zgglam
      have q4 : x3_1 < (a0.size : Int) := of_decide_eq_true zgglam
      have hx4 := bt_at a0 x3_1
      replace p4 := eq_true p4
      replace q4 := eq_true q4
      have p10 : 0 ≤ (x3_1 : Int) := of_decide_eq_true zgglam
      have q10 : x3_1 < (a0.size : Int) := of_decide_eq_true zgglam
      have hx10 := bt_at a0 x3_1
      replace p10 := eq_true p10
      replace q10 := eq_true q10
      have p12 : 0 ≤ (x3_1 : Int) := of_decide_eq_true zgglam
      have q12 : x3_1 < (a0.size : Int) := of_decide_eq_true zgglam
      have hx12 := bt_at a0 x3_1
      replace p12 := eq_true p12
      replace q12 := eq_true q12
      have p14 : 0 ≤ (x3_1 : Int) := of_decide_eq_true zgglam
      have q14 : x3_1 < (a0.size : Int) := of_decide_eq_true zgglam
      have hx14 := bt_at a0 x3_1
      replace p14 := eq_true p14
      replace q14 := eq_true q14
      go_wp2
      go_ret
      exact ⟨zagbkp, ziajdh⟩
     have c15b0 : decide (57 < (bt a0 x3_1)) = false := decide_eq_false c15
     clear c15
     have H' := aa H
     clear H
     have p4 : 0 ≤ (x3_1 : Int) := of_decide_eq_true zgglam
     have q4 : x3_1 < (a0.size : Int) := of_decide_eq_true zgglam
     have hx4 := bt_at a0 x3_1
     replace p4 := eq_true p4
     replace q4 := eq_true q4
     have p10 : 0 ≤ (x3_1 : Int) := of_decide_eq_true zgglam
     have q10 : x3_1 < (a0.size : Int) := of_decide_eq_true zgglam
     have hx10 := bt_at a0 x3_1
     replace p10 := eq_true p10
     replace q10 := eq_true q10
     have p12 : 0 ≤ (x3_1 : Int) := of_decide_eq_true zgglam
     have q12 : x3_1 < (a0.size : Int) := of_decide_eq_true zgglam
     have hx12 := bt_at a0 x3_1
     replace p12 := eq_true p12
     replace q12 := eq_true q12
     have p14 : 0 ≤ (x3_1 : Int) := of_decide_eq_true zgglam
     have q14 : x3_1 < (a0.size : Int) := of_decide_eq_true zgglam
     have hx14 := bt_at a0 x3_1
     replace p14 := eq_true p14
     replace q14 := eq_true q14
     go_wp2
     go_roundg k1
     case measure => have := HK1.out; omega
     case rel => exact ⟨(wrap64 (x3_1 + 1)), zagbkp, H', ⟨by have := HK1.out; omega⟩, ziajdh⟩
    have c11b0 : decide (122 < (bt a0 x3_1)) = false := decide_eq_false c11
    clear c11
    have H' := aa H
    clear H
    have p4 : 0 ≤ (x3_1 : Int) := of_decide_eq_true zgglam
    have q4 : x3_1 < (a0.size : Int) := of_decide_eq_true zgglam
    have hx4 := bt_at a0 x3_1
    replace p4 := eq_true p4
    replace q4 := eq_true q4
    have p10 : 0 ≤ (x3_1 : Int) := of_decide_eq_true zgglam
    have q10 : x3_1 < (a0.size : Int) := of_decide_eq_true zgglam
    have hx10 := bt_at a0 x3_1
    replace p10 := eq_true p10
    replace q10 := eq_true q10
    go_wp2
    go_roundg k1
    case measure => have := HK1.out; omega
    case rel => exact ⟨(wrap64 (x3_1 + 1)), zagbkp, H', ⟨by have := HK1.out; omega⟩, ziajdh⟩
   ·
    revert H
    refine obs_ fun t101 A16 H => ?_
    obtain rfl := Option.some.inj H
    go_wp2_with (first | (refine gc_ Tryd.func57 (some 34) #[.int .i64 (a0.size : Int), .int .i64 1, .int .i64 8] ?_; (with_reducible refine (spec_l1In.calls (a0.size : Int) 1 8 t101 _ A16.out).mono ?_); rintro e w' ⟨rfl, ⟨nd, rfl⟩⟩; refine ⟨_, rfl, ?_⟩))
    go_ret
    exact ⟨zagbkp, ziajdh⟩
def spec_l1Digits.f : Nat → Int → Option (ByteArray)
 | 0, _ => none
 | k + 1, a0 => if a0 < 0 then ((spec_l1Digits.f k (wrap64 (-a0))).bind fun t101 => (if 1 + t101.size ≤ 9223372036854775807 then (some ((⟨#[45]⟩ : ByteArray) ++ t101)) else (none))) else (if a0 < 10 then (some (strOfNums (([(wrap64 (48 + a0)) % 256] : List Int)))) else ((spec_l1Digits.f k (wrap64 (Int.tdiv a0 10))).bind fun t105 => ((some (([(wrap64 (48 + (Int.tmod a0 10))) % 256] : List Int) : List Int)).bind fun y106 => (if t105.size + (strOfNums y106).size ≤ 9223372036854775807 then (some (t105 ++ (strOfNums y106))) else (none)))))
theorem spec_l1Digits.mono_l : ∀ k, (∀ y0, LeO (spec_l1Digits.f k y0) (spec_l1Digits.f (k + 1) y0))
 | 0 => fun _ r h => by simp [spec_l1Digits.f] at h
 | k + 1 => by
  have ih0 := spec_l1Digits.mono_l k
  ·
   intro y0
   unfold spec_l1Digits.f
   with_reducible repeat' first | exact ih0 _ | exact LeO.refl _ | exact LeO.none _ | refine LeO.ite ?_ ?_ | refine LeO.bind ?_ (fun _ => ?_)
theorem spec_l1Digits.mono : ∀ a0 k, LeO (spec_l1Digits.f k a0) (spec_l1Digits.f (k + 1) a0) := by
 intro a0 k
 have ih0 := spec_l1Digits.mono_l k
 exact ih0 a0
def spec_l1Digits.T5 : Bool × List (List Nat × List Nat) := (true, [([], []), ([0], [0]), ([1], [1]), ([], []), ([3], [3]), ([4], [4]), ([5], [5]), ([6], [6]), ([7], [7]), ([2, 8], [2, 8]), ([9, 2, 0, 1, 2, 3, 4, 5, 6, 7, 8, 9], [9])])
def spec_l1Digits.B5 : List Nat := [0, 1, 3, 0, 8, 24, 56, 120, 248, 511, 1023]
theorem spec_l1Digits.tab5 : rtab .any (opsOf Tryd.f78 5) = spec_l1Digits.T5 := by kernel_rfl
theorem spec_l1Digits.bits5 : waitsOk spec_l1Digits.T5.2 spec_l1Digits.B5 = true := by kernel_rfl
theorem spec_l1Digits.calls (k : Nat) : ∀ (a0 : Int) (r : ByteArray) (w : World) (h : spec_l1Digits.f k a0 = some r),
  Calls Tryd.prog 78 #[.int .i64 a0] w fun e w' => e = .returned (.string r) ∧ Below w.heap.size w w' := by
 induction k using Nat.strongRecOn with
 | _ k ih =>
 intro a0 r w h
 cases k with
 | zero => exact absurd h (by simp [spec_l1Digits.f])
 | succ k =>
 simp only [spec_l1Digits.f] at h
 have HB := aa (Below.refl w.heap.size w)
 have H : (if a0 < 0 then ((spec_l1Digits.f k (wrap64 (-a0))).bind fun t101 => (if 1 + t101.size ≤ 9223372036854775807 then (some ((⟨#[45]⟩ : ByteArray) ++ t101)) else (none))) else (if a0 < 10 then (some (strOfNums (([(wrap64 (48 + a0)) % 256] : List Int)))) else ((spec_l1Digits.f k (wrap64 (Int.tdiv a0 10))).bind fun t105 => ((some (([(wrap64 (48 + (Int.tmod a0 10))) % 256] : List Int) : List Int)).bind fun y106 => (if t105.size + (strOfNums y106).size ≤ 9223372036854775807 then (some (t105 ++ (strOfNums y106))) else (none)))))) = some r := h
 clear h
 revert H
 refine itD_ (fun c2b0 H => ?_) fun c2b0 H => ?_
 ·
  revert H
  refine obs_ fun t101 A3 H => ?_
  revert H
  refine itG_ fun c4 H => ?_
  have c4b0 := eq_true c4
  have c4b1 := decide_eq_true c4
  try have c4b2 : (9223372036854775807 < 1 + t101.size) = False := eq_false (Nat.not_lt.2 c4)
  try (have c4b3 := c4b2; simp only [ByteArray.size_append] at c4b3)
  obtain rfl := Option.some.inj H
  go_enter Tryd.func78, Tryd.ntmps78
  go_wp2_with (first | (refine gc_ Tryd.func78 (some 7) #[.int .i64 (wrap64 (-a0))] ?_; (with_reducible refine (ih k (by omega) (wrap64 (-a0)) t101 _ A3.out).mono ?_); rintro e w5 ⟨rfl, hb⟩; refine ⟨_, rfl, ?_⟩; replace HB := aa (below_step zjjbob hb); (try clear hb hk hi)))
  go_ret
  exact ⟨zlhpib, zjjbob⟩
 revert H
 refine itD_ (fun c6b0 H => ?_) fun c6b0 H => ?_
 ·
  obtain ⟨y102, hy102⟩ : ∃ y_ : List Int, y_ = (([(wrap64 (48 + a0)) % 256] : List Int)) := ⟨_, rfl⟩
  replace H : (some (strOfNums y102)) = some r := by cases hy102; exact H
  have Ny102 := aa hy102
  clear hy102
  obtain rfl := Option.some.inj H
  go_enter Tryd.func78, Tryd.ntmps78
  go_wp2_with (first | ((with_reducible refine gate_dst (N := 14) rfl ?_); refine Kd.R_lit (Kd.int .u8) _ 5 ?hg (N := 14) ?hd (xs := ([(wrap64 (48 + a0)) % 256] : List Int)) (inner := [.int .u8 ((wrap64 (48 + a0)) % 256)]) (ok := fun _ => True) (okp := fun _ => True) ?hr ?hp (fun _ hk => hk) trivial (Below.refl _ _) (Nat.le_refl _) (by simp) ?_; (case hd => rfl); (case hg => rfl); (case hr => exact zhlgcp); (case hp => exact (Reps.one (show Kd.M (Kd.int .u8) _ _ _ ((wrap64 (48 + a0)) % 256) [.int .u8 ((wrap64 (48 + a0)) % 256)] from rfl) (Reps.none _ _))); intro v103 w7 ho8 hb hg_ hnew_; clear hg_ hnew_; (first | rw [← Ny102.out] at ho8 | (simp only [Int.reduceToNat] at ho8; rw [← Ny102.out] at ho8)); have HO104 := aa (Kd.R_lower ho8 (below_size zjjbob)); replace HB := aa (below_step zjjbob hb); clear hb ho8; have hcv9 := own_string (P := Tryd.prog) Tryd.underlying22 Tryd.underlying5 Tryd.underlying9 (Kd.own_of_R HO104.out)))
  go_ret
  exact ⟨zlhpib, zjjbob⟩
 revert H
 refine obs_ fun t105 A10 H => ?_
 revert H
 refine obl_ fun y106 Ny106 H => ?_
 revert H
 refine itG_ fun c11 H => ?_
 have c11b0 := eq_true c11
 have c11b1 := decide_eq_true c11
 try have c11b2 : (9223372036854775807 < t105.size + (strOfNums y106).size) = False := eq_false (Nat.not_lt.2 c11)
 try (have c11b3 := c11b2; simp only [ByteArray.size_append] at c11b3)
 obtain rfl := Option.some.inj H
 go_enter Tryd.func78, Tryd.ntmps78
 try go_wp2
 replace HB := aa (below_drew1 HB.out)
 refine start_ (n := 11) (S := fun w' => True) (ds := []) #[false, false, false, false, false, false, false, false, false, false, false] (by kernel_rfl) rfl rfl trivial (fun hHeld => ?_); refine with_tabW spec_l1Digits.tab5 spec_l1Digits.bits5 (fun HT_ HW_ => ?_)
 generalize w.drew = w12 at HB hHeld ⊢
 refine pu0 0 16 ?_
 refine pu0 1 17 ?_
 refine pu0 3 19 ?_
 refine pu0 4 20 ?_
 refine pu0 5 21 ?_
 refine pu0 6 22 ?_
 refine join_ (σ := Value) 2 #[true, true, true, true, true, true, true, true, true, false, false] (fun s_ => [(18, .string t105), (23, s_), (24, .string (strOfNums y106))]) (fun s_ w' => (Kd.R (Kd.int .u8) 5 w' w.heap.size (fun _ => True) s_ y106) ∧ (Below w.heap.size w w')) ?_ ?_
 rotate_left
 ·
  intro hCont
  refine two_ (i := 2) (j := 7) (Ni := some 18) (Nj := some 23) #[true, true, true, true, true, true, true, false, false, false, false] #[true, true, false, true, true, true, true, true, false, false, false] rfl rfl rfl rfl (two_of HT_.out (by kernel_rfl)) (by decide) (by decide) (fun K hK => ?_) (fun K hK => ?_)
  ·
   skip
   refine goes_ Tryd.func78 (by kernel_rfl) rfl #[.int .i64 (wrap64 (Int.tdiv a0 10))] (by rfl) rfl rfl zjnmae ?_
   with_reducible refine (ih k (by omega) (wrap64 (Int.tdiv a0 10)) t105 _ A10.out).mono ?_
   rintro e w13 ⟨rfl, hb⟩
   refine ⟨_, rfl, ?_⟩
   replace HB := aa (below_step zjjbob hb)
   (try clear hb)
   (try clear hb2)
   (try clear hk)
   (try clear hi)
   refine hK.out _ _ trivial (fun hHeld => ?_)
   clear hK K
   refine norm_ (a' := ?_) ?_ ?_
   rotate_left
   ·
    show Act.put _ (some 18) _ = _
    simp only [Act.put, List.setIfInBounds_toArray, List.set_cons_zero, List.set_cons_succ, i64_w, i32_w]
    rfl
   refine one_ (i := 7) (N := some 23) #[true, true, true, true, true, true, true, true, false, false, false] rfl rfl (one_of HT_.out (by kernel_rfl)) (by decide) (fun K hK => ?_)
   refine Kd.R_lit_step (Kd.int .u8) _ 5 ?hg (N := 23) ?hd (xs := ([(wrap64 (48 + (Int.tmod a0 10))) % 256] : List Int)) (inner := [.int .u8 ((wrap64 (48 + (Int.tmod a0 10))) % 256)]) (ok := fun _ => True) (okp := fun _ => True) ?hr ?hp (fun _ hk => hk) trivial (Below.refl _ _) (Nat.le_refl _) (by simp) ?_; (case hd => rfl); (case hg => rfl); (case hr => exact zhlgcp); (case hp => exact zoecic)
   intro v107 w14 ho15 hb hg_ hnew_
   clear hg_ hnew_
   (first | rw [← Ny106.out] at ho15 | (simp only [Int.reduceToNat] at ho15; rw [← Ny106.out] at ho15))
   have HO108 := aa (Kd.R_lower ho15 (below_size zjjbob))
   replace HB := aa (below_step zjjbob hb)
   clear hb ho15
   refine hK.out _ _ trivial (fun hHeld => ?_)
   clear hK K
   refine norm_ (a' := ?_) ?_ ?_
   rotate_left
   ·
    show Act.put _ (some 23) _ = _
    simp only [Act.put, List.setIfInBounds_toArray, List.set_cons_zero, List.set_cons_succ, i64_w, i32_w]
    rfl
   refine one_ (i := 8) (N := some 24) #[true, true, true, true, true, true, true, true, true, false, false] rfl rfl (one_of HT_.out (by kernel_rfl)) (by decide) (fun K hK => ?_)
   have hcv16 := own_string (P := Tryd.prog) Tryd.underlying22 Tryd.underlying5 Tryd.underlying9 (Kd.own_of_R HO108.out)
   refine value_ (w1 := ?_) (v := ?_) (by rfl) rfl ?_ ?_
   rotate_left 2
   ·
    go_simp
    constructor
    ·
     rfl
    rfl
   clear hcv16
   refine hK.out _ _ trivial (fun hHeld => ?_)
   clear hK K
   refine norm_ (a' := ?_) ?_ ?_
   rotate_left
   ·
    show Act.put _ (some 24) _ = _
    simp only [Act.put, List.setIfInBounds_toArray, List.set_cons_zero, List.set_cons_succ, i64_w, i32_w]
    rfl
   exact norm_ zgldpg (hCont (v107) _ ⟨(zcaken HO108.out), zjjbob⟩)
  skip
  refine Kd.R_lit_step (Kd.int .u8) _ 5 ?hg (N := 23) ?hd (xs := ([(wrap64 (48 + (Int.tmod a0 10))) % 256] : List Int)) (inner := [.int .u8 ((wrap64 (48 + (Int.tmod a0 10))) % 256)]) (ok := fun _ => True) (okp := fun _ => True) ?hr ?hp (fun _ hk => hk) trivial (Below.refl _ _) (Nat.le_refl _) (by simp) ?_; (case hd => rfl); (case hg => rfl); (case hr => exact zhlgcp); (case hp => exact zoecic)
  intro v107 w13 ho14 hb hg_ hnew_
  clear hg_ hnew_
  (first | rw [← Ny106.out] at ho14 | (simp only [Int.reduceToNat] at ho14; rw [← Ny106.out] at ho14))
  have HO108 := aa (Kd.R_lower ho14 (below_size zjjbob))
  replace HB := aa (below_step zjjbob hb)
  clear hb ho14
  refine hK.out _ _ trivial (fun hHeld => ?_)
  clear hK K
  refine norm_ (a' := ?_) ?_ ?_
  rotate_left
  ·
   show Act.put _ (some 23) _ = _
   simp only [Act.put, List.setIfInBounds_toArray, List.set_cons_zero, List.set_cons_succ, i64_w, i32_w]
   rfl
  refine two_ (i := 2) (j := 8) (Ni := some 18) (Nj := some 24) #[true, true, true, true, true, true, true, true, false, false, false] #[true, true, false, true, true, true, true, true, true, false, false] rfl rfl rfl rfl (two_of HT_.out (by kernel_rfl)) (by decide) (by decide) (fun K hK => ?_) (fun K hK => ?_)
  ·
   skip
   refine goes_ Tryd.func78 (by kernel_rfl) rfl #[.int .i64 (wrap64 (Int.tdiv a0 10))] (by rfl) rfl rfl zjnmae ?_
   with_reducible refine (ih k (by omega) (wrap64 (Int.tdiv a0 10)) t105 _ A10.out).mono ?_
   rintro e w15 ⟨rfl, hb⟩
   refine ⟨_, rfl, ?_⟩
   replace HO108 := aa (Kd.R_below (zcaken HO108.out) hb)
   replace HB := aa (below_step zjjbob hb)
   (try clear hb)
   (try clear hb2)
   (try clear hk)
   (try clear hi)
   refine hK.out _ _ trivial (fun hHeld => ?_)
   clear hK K
   refine norm_ (a' := ?_) ?_ ?_
   rotate_left
   ·
    show Act.put _ (some 18) _ = _
    simp only [Act.put, List.setIfInBounds_toArray, List.set_cons_zero, List.set_cons_succ, i64_w, i32_w]
    rfl
   refine one_ (i := 8) (N := some 24) #[true, true, true, true, true, true, true, true, true, false, false] rfl rfl (one_of HT_.out (by kernel_rfl)) (by decide) (fun K hK => ?_)
   have hcv16 := own_string (P := Tryd.prog) Tryd.underlying22 Tryd.underlying5 Tryd.underlying9 (Kd.own_of_R HO108.out)
   refine value_ (w1 := ?_) (v := ?_) (by rfl) rfl ?_ ?_
   rotate_left 2
   ·
    go_simp
    constructor
    ·
     rfl
    rfl
   clear hcv16
   refine hK.out _ _ trivial (fun hHeld => ?_)
   clear hK K
   refine norm_ (a' := ?_) ?_ ?_
   rotate_left
   ·
    show Act.put _ (some 24) _ = _
    simp only [Act.put, List.setIfInBounds_toArray, List.set_cons_zero, List.set_cons_succ, i64_w, i32_w]
    rfl
   exact norm_ zgldpg (hCont (v107) _ ⟨(zcaken HO108.out), zjjbob⟩)
  skip
  have hcv15 := own_string (P := Tryd.prog) Tryd.underlying22 Tryd.underlying5 Tryd.underlying9 (Kd.own_of_R HO108.out)
  refine value_ (w1 := ?_) (v := ?_) (by rfl) rfl ?_ ?_
  rotate_left 2
  ·
   go_simp
   constructor
   ·
    rfl
   rfl
  clear hcv15
  refine hK.out _ _ trivial (fun hHeld => ?_)
  clear hK K
  refine norm_ (a' := ?_) ?_ ?_
  rotate_left
  ·
   show Act.put _ (some 24) _ = _
   simp only [Act.put, List.setIfInBounds_toArray, List.set_cons_zero, List.set_cons_succ, i64_w, i32_w]
   rfl
  refine one_ (i := 2) (N := some 18) #[true, true, true, true, true, true, true, true, true, false, false] rfl rfl (one_of HT_.out (by kernel_rfl)) (by decide) (fun K hK => ?_)
  refine goes_ Tryd.func78 (by kernel_rfl) rfl #[.int .i64 (wrap64 (Int.tdiv a0 10))] (by rfl) rfl rfl zjnmae ?_
  with_reducible refine (ih k (by omega) (wrap64 (Int.tdiv a0 10)) t105 _ A10.out).mono ?_
  rintro e w16 ⟨rfl, hb⟩
  refine ⟨_, rfl, ?_⟩
  replace HO108 := aa (Kd.R_below (zcaken HO108.out) hb)
  replace HB := aa (below_step zjjbob hb)
  (try clear hb)
  (try clear hb2)
  (try clear hk)
  (try clear hi)
  refine hK.out _ _ trivial (fun hHeld => ?_)
  clear hK K
  refine norm_ (a' := ?_) ?_ ?_
  rotate_left
  ·
   show Act.put _ (some 18) _ = _
   simp only [Act.put, List.setIfInBounds_toArray, List.set_cons_zero, List.set_cons_succ, i64_w, i32_w]
   rfl
  exact norm_ zgldpg (hCont (v107) _ ⟨(zcaken HO108.out), zjjbob⟩)
 rintro v107 w17 ⟨h0_, h1_⟩
 have n0_ : Aside0 (Kd.R (Kd.int .u8) 5 w17 w.heap.size (fun _ => True) v107 y106) := ⟨h0_⟩
 have n1_ : Aside0 (Below w.heap.size w w17) := ⟨h1_⟩
 clear HB
 clear h0_ h1_
 have HO108 := n0_
 have HB := n1_
 clear n0_ n1_
 have hHeld := trivial
 refine norm_ (a' := ?_) ?_ ?_
 rotate_left
 ·
  simp only [putAll, Act.put, List.setIfInBounds_toArray, List.set_cons_zero, List.set_cons_succ]
  rfl
 refine pu0 9 25 ?_
 refine pu0 10 2 ?_
 refine done_ (done_of HT_.out (by kernel_rfl)) ?_
 try go_wp2
 go_ret
 exact ⟨zlhpib, zjjbob⟩
def spec_l1Seq.f (k : Nat) (a0 : ByteArray) (a1 : Int) : Option (ByteArray) := (spec_l1Digits.f k (wrap64 (Int.tdiv a1 10))).bind fun t101 => (if a0.size + t101.size ≤ 9223372036854775807 then ((spec_l1Digits.f k (Int.tmod a1 10)).bind fun t102 => (if (a0 ++ t101).size + t102.size ≤ 9223372036854775807 then (some ((a0 ++ t101) ++ t102)) else (none))) else (none))
theorem spec_l1Seq.mono : ∀ a0 a1 k, LeO (spec_l1Seq.f k a0 a1) (spec_l1Seq.f (k + 1) a0 a1) := by
 intro a0 a1 k
 unfold spec_l1Seq.f
 with_reducible repeat' first | exact spec_l1Digits.mono _ _ | exact LeO.refl _ | exact LeO.none _ | refine LeO.ite ?_ ?_ | refine LeO.bind ?_ (fun _ => ?_)
theorem spec_l1Seq.calls (k : Nat) (a0 : ByteArray) (a1 : Int) (r : ByteArray) (w : World) (h : spec_l1Seq.f k a0 a1 = some r) :
  Calls Tryd.prog 58 #[.string a0, .int .i64 a1] w fun e w' => e = .returned (.string r) ∧ Below w.heap.size w w' := by
 have HB := aa (Below.refl w.heap.size w)
 have H : ((spec_l1Digits.f k (wrap64 (Int.tdiv a1 10))).bind fun t101 => (if a0.size + t101.size ≤ 9223372036854775807 then ((spec_l1Digits.f k (Int.tmod a1 10)).bind fun t102 => (if (a0 ++ t101).size + t102.size ≤ 9223372036854775807 then (some ((a0 ++ t101) ++ t102)) else (none))) else (none))) = some r := h
 clear h
 revert H
 refine obs_ fun t101 A3 H => ?_
 revert H
 refine itG_ fun c4 H => ?_
 have c4b0 := eq_true c4
 have c4b1 := decide_eq_true c4
 try have c4b2 : (9223372036854775807 < a0.size + t101.size) = False := eq_false (Nat.not_lt.2 c4)
 try (have c4b3 := c4b2; simp only [ByteArray.size_append] at c4b3)
 revert H
 refine obs_ fun t102 A5 H => ?_
 revert H
 refine itG_ fun c6 H => ?_
 have c6b0 := eq_true c6
 have c6b1 := decide_eq_true c6
 try have c6b2 : (9223372036854775807 < (a0 ++ t101).size + t102.size) = False := eq_false (Nat.not_lt.2 c6)
 try (have c6b3 := c6b2; simp only [ByteArray.size_append] at c6b3)
 obtain rfl := Option.some.inj H
 go_enter Tryd.func58, Tryd.ntmps58
 go_wp2_with (first | (refine gc_ Tryd.func78 (some 8) #[.int .i64 (wrap64 (Int.tdiv a1 10))] ?_; (with_reducible refine (spec_l1Digits.calls k (wrap64 (Int.tdiv a1 10)) t101 _ A3.out).mono ?_); rintro e w7 ⟨rfl, hb⟩; refine ⟨_, rfl, ?_⟩; replace HB := aa (below_step zjjbob hb); (try clear hb hk hi)) | (refine gc_ Tryd.func78 (some 12) #[.int .i64 (Int.tmod a1 10)] ?_; (with_reducible refine (spec_l1Digits.calls k (Int.tmod a1 10) t102 _ A5.out).mono ?_); rintro e w8 ⟨rfl, hb⟩; refine ⟨_, rfl, ?_⟩; replace HB := aa (below_step zjjbob hb); (try clear hb hk hi)))
 go_ret
 exact ⟨zlhpib, zjjbob⟩
def spec_l1Cut.l0 : Nat → ByteArray → Int → List ByteArray → Int → Int → Option (List ByteArray)
 | 0, _, _, _, _, _ => none
 | k + 1, x0, x1, x5, x6, x7 => if x7 ≤ (x0.size : Int) then (if x7 = (x0.size : Int) then (if 0 ≤ x6 then (if x6 ≤ x7 then (if x5.length < 8796093022208 then (spec_l1Cut.l0 k x0 x1 (x5 ++ [x0.extract (x6 : Int).toNat (x7 : Int).toNat]) (wrap64 (x7 + 1)) (wrap64 (x7 + 1))) else (none)) else (none)) else (none)) else (if 0 ≤ x7 then (if x7 < (x0.size : Int) then (if (bt x0 x7) = x1 then (if 0 ≤ x6 then (if x6 ≤ x7 then (if x5.length < 8796093022208 then (spec_l1Cut.l0 k x0 x1 (x5 ++ [x0.extract (x6 : Int).toNat (x7 : Int).toNat]) (wrap64 (x7 + 1)) (wrap64 (x7 + 1))) else (none)) else (none)) else (none)) else (spec_l1Cut.l0 k x0 x1 x5 x6 (wrap64 (x7 + 1)))) else (none)) else (none))) else (some x5)
def spec_l1Cut.f (k : Nat) (a0 : ByteArray) (a1 : Int) : Option (List ByteArray) := spec_l1Cut.l0 k a0 a1 (([] : List ByteArray)) 0 0
theorem spec_l1Cut.mono_l : ∀ k, (∀ y0 y1 y2 y3 y4, LeO (spec_l1Cut.l0 k y0 y1 y2 y3 y4) (spec_l1Cut.l0 (k + 1) y0 y1 y2 y3 y4))
 | 0 => fun _ _ _ _ _ r h => by simp [spec_l1Cut.l0] at h
 | k + 1 => by
  have ih0 := spec_l1Cut.mono_l k
  ·
   intro y0 y1 y2 y3 y4
   unfold spec_l1Cut.l0
   with_reducible repeat' first | exact ih0 _ _ _ _ _ | exact LeO.refl _ | exact LeO.none _ | refine LeO.ite ?_ ?_ | refine LeO.bind ?_ (fun _ => ?_)
theorem spec_l1Cut.mono : ∀ a0 a1 k, LeO (spec_l1Cut.f k a0 a1) (spec_l1Cut.f (k + 1) a0 a1) := by
 intro a0 a1 k
 have ih0 := spec_l1Cut.mono_l k
 unfold spec_l1Cut.f
 with_reducible repeat' first | exact ih0 _ _ _ _ _ | exact LeO.refl _ | exact LeO.none _ | refine LeO.ite ?_ ?_ | refine LeO.bind ?_ (fun _ => ?_)
theorem spec_l1Cut.calls (k : Nat) (a0 : ByteArray) (a1 : Int) (r : List ByteArray) (w : World) (h : spec_l1Cut.f k a0 a1 = some r) :
  Calls Tryd.prog 80 #[.string a0, .int .u8 a1] w fun e w' => ∃ v0_ : Value, e = .returned (v0_) ∧ Kd.R Kd.string 9 w' w.heap.size (fun _ => True) v0_ r ∧ Below w.heap.size w w' := by
 have HB := aa (Below.refl w.heap.size w)
 have H : (spec_l1Cut.l0 k a0 a1 (([] : List ByteArray)) 0 0) = some r := h
 clear h
 obtain ⟨y101, hy101⟩ : ∃ y_ : List ByteArray, y_ = (([] : List ByteArray)) := ⟨_, rfl⟩
 replace H : (spec_l1Cut.l0 k a0 a1 y101 0 0) = some r := by cases hy101; exact H
 have Ny101 := aa hy101
 clear hy101
 have H' := aa H
 clear H
 go_enter Tryd.func80, Tryd.ntmps80
 go_wp2_with (first | ((with_reducible refine gate_dst (N := 8) rfl ?_); refine Kd.R_lit Kd.string _ 9 ?hg (N := 8) ?hd (xs := ([] : List ByteArray)) (inner := []) (ok := fun _ => True) (okp := fun _ => True) ?hr ?hp (fun _ hk => hk) trivial (Below.refl _ _) (Nat.le_refl _) (by simp) ?_; (case hd => rfl); (case hg => rfl); (case hr => exact zhlgcp); (case hp => exact (Reps.none _ _)); intro v102 w3 ho4 hb hg_ hnew_; clear hg_ hnew_; (first | rw [← Ny101.out] at ho4 | (simp only [Int.reduceToNat] at ho4; rw [← Ny101.out] at ho4)); have HO103 := aa (Kd.R_lower ho4 (below_size zjjbob)); replace HB := aa (below_step zjjbob hb); clear hb ho4))
 go_loopg [5, 6, 7] k (fun kq v5 v6 v7 w' => ∃ (x5_1 : List ByteArray) (x6_1 : Int) (x7_1 : Int), v6 = .int .i64 x6_1 ∧ v7 = .int .i64 x7_1 ∧ Aside0 (spec_l1Cut.l0 kq a0 a1 x5_1 x6_1 x7_1 = some r) ∧ Aside0 (kq ≤ k) ∧ Aside0 (Kd.R Kd.string 9 w' w.heap.size (fun _ => True) v5 x5_1) ∧ Aside0 (Below w.heap.size w w'))
 case atStart => exact ⟨(y101), (0), (0), zagbkp, zagbkp, H', ⟨Nat.le_refl _⟩, ⟨zcaken HO103.out⟩, ⟨zjjbob⟩⟩
 case round =>
  clear H'
  try clear p2
  obtain ⟨x5_1, x6_1, x7_1, rfl, rfl, HA, HK1, HO_5, HB⟩ := hrel
  cases gk with
  | zero => exact absurd HA.out (by simp [spec_l1Cut.l0])
  | succ k1 =>
   have H := HA.out
   clear HA
   simp only [spec_l1Cut.l0] at H
   revert H
   refine itD_ (fun c5b0 H => ?_) fun c5b0 H => ?_
   ·
    revert H
    refine itE_ (fun c6b0 c6b1 H => ?_) fun c6b0 c6b1 H => ?_
    ·
     revert H
     refine itG_ fun c7 H => ?_
     have c7b0 := eq_true c7
     have c7b1 := decide_eq_true c7
     clear c7
     revert H
     refine itG_ fun c8 H => ?_
     have c8b0 := eq_true c8
     have c8b1 := decide_eq_true c8
     clear c8
     have c9b0 := eq_true (of_decide_eq_true zgglam : x7_1 ≤ (a0.size : Int))
     revert H
     refine itG_ fun c10 H => ?_
     have LMc10 := aa c10
     clear c10
     obtain ⟨y104, hy104⟩ : ∃ y_ : List ByteArray, y_ = (x5_1 ++ [a0.extract (x6_1 : Int).toNat (x7_1 : Int).toNat]) := ⟨_, rfl⟩
     replace H : (spec_l1Cut.l0 k1 a0 a1 y104 (wrap64 (x7_1 + 1)) (wrap64 (x7_1 + 1))) = some r := by cases hy104; exact H
     have Ny104 := aa hy104
     clear hy104
     have H' := aa H
     clear H
     go_wp2_with (first | ((with_reducible refine gate_builtin (b := .append) (xs := #[.tmp 26, .tmp 31]) rfl ?_); at_builtin; refine Kd.R_append Kd.string (w0 := w) w.heap.size rfl (.tmp 26) (.tmp 31) 38 9 (.string ⟨#[]⟩) 16 rfl Tryd.underlying38 info9 rfl (by decide) (by omega) u5 x5_1 (a0.extract (x6_1 : Int).toNat (x7_1 : Int).toNat) [.string (a0.extract (x6_1 : Int).toNat (x7_1 : Int).toNat)] (fun _ => True) (fun _ => False) rfl rfl ?aP (fun _ hk => hk.elim) ?aF ?aO ?aB ?aS ?aL ?_; (case aP => exact rfl); (case aB => exact zjjbob); (case aF => exact (fun _ _ => trivial)); (case aO => exact (zcaken HO_5.out)); (case aS => exact (below_size zjjbob)); (case aL => have := LMc10.out; omega); intro v105 w11 ho hb hg hat; rw [← Ny104.out] at ho; replace HB := aa (hb); have HO106 := aa (ho); clear HO_5; clear ho hb hg hat))
     go_roundg k1
     case measure => have := HK1.out; omega
     case rel => exact ⟨(y104), (wrap64 (x7_1 + 1)), (wrap64 (x7_1 + 1)), zagbkp, zagbkp, H', ⟨by have := HK1.out; omega⟩, ⟨zcaken HO106.out⟩, ⟨zjjbob⟩⟩
    revert H
    refine itH_ fun c12b0 H => ?_
    revert H
    refine itH_ fun c13b0 H => ?_
    revert H
    refine itE_ (fun c15b0 c15b1 H => ?_) fun c15b0 c15b1 H => ?_
    ·
     revert H
     refine itG_ fun c16 H => ?_
     have c16b0 := eq_true c16
     have c16b1 := decide_eq_true c16
     clear c16
     revert H
     refine itG_ fun c17 H => ?_
     have c17b0 := eq_true c17
     have c17b1 := decide_eq_true c17
     clear c17
     have c18b0 := eq_true (of_decide_eq_true zgglam : x7_1 ≤ (a0.size : Int))
     revert H
     refine itG_ fun c19 H => ?_
     have LMc19 := aa c19
     clear c19
     obtain ⟨y107, hy107⟩ : ∃ y_ : List ByteArray, y_ = (x5_1 ++ [a0.extract (x6_1 : Int).toNat (x7_1 : Int).toNat]) := ⟨_, rfl⟩
     replace H : (spec_l1Cut.l0 k1 a0 a1 y107 (wrap64 (x7_1 + 1)) (wrap64 (x7_1 + 1))) = some r := by cases hy107; exact H
     have Ny107 := aa hy107
     clear hy107
     have H' := aa H
     clear H
     have p14 : 0 ≤ (x7_1 : Int) := of_decide_eq_true zgglam
     have q14 : x7_1 < (a0.size : Int) := of_decide_eq_true zgglam
     have hx14 := bt_at a0 x7_1
     replace p14 := eq_true p14
     replace q14 := eq_true q14
     go_wp2_with (first | ((with_reducible refine gate_builtin (b := .append) (xs := #[.tmp 26, .tmp 31]) rfl ?_); at_builtin; refine Kd.R_append Kd.string (w0 := w) w.heap.size rfl (.tmp 26) (.tmp 31) 38 9 (.string ⟨#[]⟩) 16 rfl Tryd.underlying38 info9 rfl (by decide) (by omega) u5 x5_1 (a0.extract (x6_1 : Int).toNat (x7_1 : Int).toNat) [.string (a0.extract (x6_1 : Int).toNat (x7_1 : Int).toNat)] (fun _ => True) (fun _ => False) rfl rfl ?aP (fun _ hk => hk.elim) ?aF ?aO ?aB ?aS ?aL ?_; (case aP => exact rfl); (case aB => exact zjjbob); (case aF => exact (fun _ _ => trivial)); (case aO => exact (zcaken HO_5.out)); (case aS => exact (below_size zjjbob)); (case aL => have := LMc19.out; omega); intro v108 w20 ho hb hg hat; rw [← Ny107.out] at ho; replace HB := aa (hb); have HO109 := aa (ho); clear HO_5; clear ho hb hg hat))
     go_roundg k1
     case measure => have := HK1.out; omega
     case rel => exact ⟨(y107), (wrap64 (x7_1 + 1)), (wrap64 (x7_1 + 1)), zagbkp, zagbkp, H', ⟨by have := HK1.out; omega⟩, ⟨zcaken HO109.out⟩, ⟨zjjbob⟩⟩
    have H' := aa H
    clear H
    have p14 : 0 ≤ (x7_1 : Int) := of_decide_eq_true zgglam
    have q14 : x7_1 < (a0.size : Int) := of_decide_eq_true zgglam
    have hx14 := bt_at a0 x7_1
    replace p14 := eq_true p14
    replace q14 := eq_true q14
    go_wp2
    go_roundg k1
    case measure => have := HK1.out; omega
    case rel => exact ⟨(x5_1), (x6_1), (wrap64 (x7_1 + 1)), zagbkp, zagbkp, H', ⟨by have := HK1.out; omega⟩, ⟨zcaken HO_5.out⟩, ⟨zjjbob⟩⟩
   ·
    obtain rfl := Option.some.inj H
    go_wp2
    go_ret
    exact ⟨_, zlhpib, zcaken HO_5.out, zjjbob⟩
mutual
def spec_l1Names.j0 : Nat → List ByteArray → Bool → Option (List ByteArray × Bool)
 | 0, _, _ => none
 | k + 1, x4, x19 => if x19 = true then (some (([] : List ByteArray), false)) else (spec_l1Names.l0 k x4 1)
def spec_l1Names.l0 : Nat → List ByteArray → Int → Option (List ByteArray × Bool)
 | 0, _, _ => none
 | k + 1, x4, x5 => if x5 < (x4.length : Int) then (if 0 ≤ x5 then ((spec_l1Name.f k (rdOf ByteArray.empty x4 x5)).bind fun t109 => (if t109 = true then (spec_l1Names.l0 k x4 (wrap64 (x5 + 1))) else (some (([] : List ByteArray), false)))) else (none)) else (if 1 ≤ (x4.length : Int) then (some ((x4.drop (1 : Int).toNat), true)) else (none))
end
def spec_l1Names.f (k : Nat) (a0 : ByteArray) : Option (List ByteArray × Bool) := if a0.toList = ([47] : List UInt8) then (some ((([] : List ByteArray)), true)) else ((spec_l1Cut.f k a0 47).bind fun t104 => (if (t104.length : Int) < 2 then (spec_l1Names.j0 k t104 true) else (if 0 < (t104.length : Int) then (spec_l1Names.j0 k t104 ((rdOf ByteArray.empty t104 0).toList != ([] : List UInt8))) else (none))))
theorem spec_l1Names.mono_l : ∀ k, (∀ y0 y1, LeO (spec_l1Names.j0 k y0 y1) (spec_l1Names.j0 (k + 1) y0 y1)) ∧ (∀ y0 y1, LeO (spec_l1Names.l0 k y0 y1) (spec_l1Names.l0 (k + 1) y0 y1))
 | 0 => ⟨fun _ _ r h => by simp [spec_l1Names.j0] at h, fun _ _ r h => by simp [spec_l1Names.l0] at h⟩
 | k + 1 => by
  obtain ⟨ih0, ih1⟩ := spec_l1Names.mono_l k
  refine ⟨?_, ?_⟩
  ·
   intro y0 y1
   unfold spec_l1Names.j0
   with_reducible repeat' first | exact ih0 _ _ | exact ih1 _ _ | exact spec_l1Cut.mono _ _ _ | exact spec_l1Name.mono _ _ | exact LeO.refl _ | exact LeO.none _ | refine LeO.ite ?_ ?_ | refine LeO.bind ?_ (fun _ => ?_)
  ·
   intro y0 y1
   unfold spec_l1Names.l0
   with_reducible repeat' first | exact ih0 _ _ | exact ih1 _ _ | exact spec_l1Cut.mono _ _ _ | exact spec_l1Name.mono _ _ | exact LeO.refl _ | exact LeO.none _ | refine LeO.ite ?_ ?_ | refine LeO.bind ?_ (fun _ => ?_)
theorem spec_l1Names.mono : ∀ a0 k, LeO (spec_l1Names.f k a0) (spec_l1Names.f (k + 1) a0) := by
 intro a0 k
 obtain ⟨ih0, ih1⟩ := spec_l1Names.mono_l k
 unfold spec_l1Names.f
 with_reducible repeat' first | exact ih0 _ _ | exact ih1 _ _ | exact spec_l1Cut.mono _ _ _ | exact spec_l1Name.mono _ _ | exact LeO.refl _ | exact LeO.none _ | refine LeO.ite ?_ ?_ | refine LeO.bind ?_ (fun _ => ?_)
theorem spec_l1Names.calls (k : Nat) (a0 : ByteArray) (r1 : List ByteArray) (r2 : Bool) (w : World) (h : spec_l1Names.f k a0 = some (r1, r2)) :
  Calls Tryd.prog 81 #[.string a0] w fun e w' => ∃ v0_ : Value, e = .returned (.tuple #[v0_, .bool r2]) ∧ Kd.Q Kd.string 9 w' w.heap.size (fun _ => True) v0_ r1 ∧ Below w.heap.size w w' := by
 have HB := aa (Below.refl w.heap.size w)
 have H : (if a0.toList = ([47] : List UInt8) then (some ((([] : List ByteArray)), true)) else ((spec_l1Cut.f k a0 47).bind fun t104 => (if (t104.length : Int) < 2 then (spec_l1Names.j0 k t104 true) else (if 0 < (t104.length : Int) then (spec_l1Names.j0 k t104 ((rdOf ByteArray.empty t104 0).toList != ([] : List UInt8))) else (none))))) = some (r1, r2) := h
 clear h
 revert H
 refine itE_ (fun c2b0 c2b1 H => ?_) fun c2b0 c2b1 H => ?_
 ·
  obtain ⟨y101, hy101⟩ : ∃ y_ : List ByteArray, y_ = (([] : List ByteArray)) := ⟨_, rfl⟩
  replace H : (some (y101, true)) = some (r1, r2) := by cases hy101; exact H
  have Ny101 := aa hy101
  clear hy101
  simp only [Option.some.injEq, Prod.mk.injEq] at H
  obtain ⟨rfl, rfl⟩ := H
  go_enter Tryd.func81, Tryd.ntmps81
  go_wp2_with (first | ((with_reducible refine gate_dst (N := 8) rfl ?_); refine Kd.R_lit Kd.string _ 9 ?hg (N := 8) ?hd (xs := ([] : List ByteArray)) (inner := []) (ok := fun _ => True) (okp := fun _ => True) ?hr ?hp (fun _ hk => hk) trivial (Below.refl _ _) (Nat.le_refl _) (by simp) ?_; (case hd => rfl); (case hg => rfl); (case hr => exact zhlgcp); (case hp => exact (Reps.none _ _)); intro v102 w3 ho4 hb hg_ hnew_; clear hg_ hnew_; (first | rw [← Ny101.out] at ho4 | (simp only [Int.reduceToNat] at ho4; rw [← Ny101.out] at ho4)); have HO103 := aa (Kd.R_lower ho4 (below_size zjjbob)); replace HB := aa (below_step zjjbob hb); clear hb ho4))
  go_ret2
  exact ⟨_, zlhpib, Kd.Q_of_R (zcaken HO103.out), zjjbob⟩
 revert H
 refine obs_ fun t104 A5 H => ?_
 have HC6 := aa H
 clear H
 go_enter Tryd.func81, Tryd.ntmps81
 go_upto_region 4 with (first | (refine gc_ Tryd.func80 (some 10) #[.string a0, .int .u8 47] ?_; (with_reducible refine (spec_l1Cut.calls k a0 47 t104 _ A5.out).mono ?_); rintro e w7 ⟨v105, rfl, ho0, hb⟩; refine ⟨_, rfl, ?_⟩; have HO106 := aa (Kd.R_lower ho0 (below_size zjjbob)); replace HB := aa (below_step zjjbob hb); (try clear hb hk hi ho0)))
 (try simp only [Act.put, List.setIfInBounds_toArray, List.set_cons_zero, List.set_cons_succ])
 go_cut [19] (fun v19 wc => ∃ (kq : Nat) (x19_5 : Bool), v19 = .bool x19_5 ∧ Aside0 (spec_l1Names.j0 kq t104 x19_5 = some (r1, r2)) ∧ Aside0 (kq ≤ k) ∧ Aside0 (Kd.R Kd.string 9 wc w.heap.size (fun _ => True) v105 t104) ∧ Aside0 (Below w.heap.size w wc))
 case first =>
  have H := HC6.out
  clear HC6
  revert H
  refine itC_ (fun c8 H => ?_) fun c8 H => ?_
  ·
   have c8b0 := decide_eq_true c8
   have c8b1 : decide (t104.length < 2) = true := decide_eq_true (by omega)
   clear c8
   (first | rw [c8b0] | (simp only [i64_w, i32_w]; rw [c8b0]) | (simp only [c8b2, Bool.not_false, Bool.not_true]) | skip)
   have H' := aa H
   clear H
   obtain ⟨Ao9, co9, eo9⟩ := Kd.R_slice HO106.out
   subst eo9
   go_wp2
   go_meet
   case rel => exact ⟨_, (true), zagbkp, H', ⟨zpacfg⟩, ⟨zcaken HO106.out⟩, ⟨zjjbob⟩⟩
  have c8b0 := decide_eq_false c8
  have c8b1 : decide (t104.length < 2) = false := decide_eq_false (by omega)
  clear c8
  (first | rw [c8b0] | (simp only [i64_w, i32_w]; rw [c8b0]) | (simp only [c8b2, Bool.not_false, Bool.not_true]) | skip)
  revert H
  refine itG_ fun c10 H => ?_
  have c10b0 := decide_eq_true c10
  have c10b1 : decide (0 < t104.length) = true := decide_eq_true (by omega)
  clear c10
  have H' := aa H
  clear H
  obtain ⟨Ao11, co11, eo11⟩ := Kd.R_slice HO106.out
  subst eo11
  have p107 : 0 ≤ (0 : Int) := (by omega)
  have q107 : 0 < (t104.length : Int) := of_decide_eq_true zgglam
  obtain ⟨ad107, e107, hx107_0⟩ := Kd.at_string (Kd.R_reads' HO106.out).2.2 0 p107 q107
  cases e107
  have qi107 : (0 < t104.length) = True := eq_true (by omega)
  (try rw [show ((0 : Int)).toNat = 0 from rfl] at hx107_0)
  (try rw [Addr.add_zero'] at hx107_0)
  replace p107 := eq_true p107
  replace q107 := eq_true q107
  go_wp2
  go_meet
  case rel => exact ⟨_, (((rdOf ByteArray.empty t104 0).toList != ([] : List UInt8))), zheoaa, H', ⟨zpacfg⟩, ⟨zcaken HO106.out⟩, ⟨zjjbob⟩⟩
 case rest =>
  clear HC6
  try clear p1
  try clear q1
  try clear hx1
  try clear qi1
  try clear c2b0
  try clear c2b1
  try clear p2
  try clear c8
  try clear c8b0
  try clear c8b1
  try clear c8b2
  try clear c10
  try clear c10b0
  try clear c10b1
  try clear p10
  try clear q10
  try clear hx10
  try clear qi10
  try clear hx107_0
  try clear p107
  try clear q107
  obtain ⟨kq, x19_5, rfl, HA, HJ5, HO_4, HB⟩ := hcut
  cases kq with
  | zero => exact absurd HA.out (by simp [spec_l1Names.j0])
  | succ kj5 =>
   have H := HA.out
   clear HA
   simp only [spec_l1Names.j0] at H
   by_cases c12 : x19_5 = true
   ·
    subst c12
    rw [if_pos rfl] at H
    simp only [Option.some.injEq, Prod.mk.injEq] at H
    obtain ⟨rfl, rfl⟩ := H
    go_wp2
    go_ret2
    exact ⟨_, zlhpib, Kd.Q_of_R zhijhk, zjjbob⟩
   ·
    replace c12 := Bool.eq_false_iff.mpr c12
    subst c12
    rw [if_neg fT_] at H
    have H' := aa H
    clear H
    go_wp2
    go_loopg [5] kj5 (fun kq v5 w' => ∃ (x5_2 : Int), v5 = .int .i64 x5_2 ∧ Aside0 (spec_l1Names.l0 kq t104 x5_2 = some (r1, r2)) ∧ Aside0 (kq ≤ kj5) ∧ Aside0 (Kd.R Kd.string 9 w' w.heap.size (fun _ => True) v105 t104) ∧ Aside0 (Below w.heap.size w w'))
    case atStart => exact ⟨(1), zagbkp, H', ⟨Nat.le_refl _⟩, ⟨zcaken HO_4.out⟩, ⟨zjjbob⟩⟩
    case round =>
     clear H'
     try clear p1
     try clear q1
     try clear hx1
     try clear qi1
     try clear c2b0
     try clear c2b1
     try clear p2
     try clear c8
     try clear c8b0
     try clear c8b1
     try clear c8b2
     try clear c10
     try clear c10b0
     try clear c10b1
     try clear p10
     try clear q10
     try clear hx10
     try clear qi10
     try clear c12
     try clear hx107_0
     try clear p1
     try clear p10
     try clear p107
     try clear p2
     try clear q1
     try clear q10
     try clear q107
     obtain ⟨x5_2, rfl, HA, HK2, HO_4, HB⟩ := hrel
     cases gk with
     | zero => exact absurd HA.out (by simp [spec_l1Names.l0])
     | succ k2 =>
      have H := HA.out
      clear HA
      simp only [spec_l1Names.l0] at H
      revert H
      refine itD_ (fun c13b0 H => ?_) fun c13b0 H => ?_
      ·
       revert H
       refine itH_ fun c14b0 H => ?_
       revert H
       refine obs_ fun t109 A15 H => ?_
       by_cases c16 : t109 = true
       ·
        subst c16
        rw [if_pos rfl] at H
        have H' := aa H
        clear H
        obtain ⟨Ao17, co17, eo17⟩ := Kd.R_slice HO_4.out
        subst eo17
        have p108 : 0 ≤ (x5_2 : Int) := of_decide_eq_true zgglam
        have q108 : x5_2 < (t104.length : Int) := of_decide_eq_true zgglam
        obtain ⟨ad108, e108, hx108_0⟩ := Kd.at_string (Kd.R_reads' HO_4.out).2.2 x5_2 p108 q108
        cases e108
        replace p108 := eq_true p108
        replace q108 := eq_true q108
        go_wp2_with (first | (refine gc_ Tryd.func56 (some 30) #[.string (rdOf ByteArray.empty t104 x5_2)] ?_; (with_reducible refine (spec_l1Name.calls k2 (rdOf ByteArray.empty t104 x5_2) true _ A15.out).mono ?_); rintro e w' ⟨rfl, ⟨nd, rfl⟩⟩; refine ⟨_, rfl, ?_⟩))
        go_roundg k2
        case measure => have := HJ5.out; have := HK2.out; omega
        case rel => exact ⟨(wrap64 (x5_2 + 1)), zagbkp, H', ⟨by have := HJ5.out; have := HK2.out; omega⟩, ⟨zcaken HO_4.out⟩, ⟨zjjbob⟩⟩
       replace c16 := Bool.eq_false_iff.mpr c16
       subst c16
       rw [if_neg fT_] at H
       simp only [Option.some.injEq, Prod.mk.injEq] at H
       obtain ⟨rfl, rfl⟩ := H
       obtain ⟨Ao18, co18, eo18⟩ := Kd.R_slice HO_4.out
       subst eo18
       have p108 : 0 ≤ (x5_2 : Int) := of_decide_eq_true zgglam
       have q108 : x5_2 < (t104.length : Int) := of_decide_eq_true zgglam
       obtain ⟨ad108, e108, hx108_0⟩ := Kd.at_string (Kd.R_reads' HO_4.out).2.2 x5_2 p108 q108
       cases e108
       replace p108 := eq_true p108
       replace q108 := eq_true q108
       go_wp2_with (first | (refine gc_ Tryd.func56 (some 30) #[.string (rdOf ByteArray.empty t104 x5_2)] ?_; (with_reducible refine (spec_l1Name.calls k2 (rdOf ByteArray.empty t104 x5_2) false _ A15.out).mono ?_); rintro e w' ⟨rfl, ⟨nd, rfl⟩⟩; refine ⟨_, rfl, ?_⟩))
       go_ret2
       exact ⟨_, zlhpib, Kd.Q_of_R zhijhk, zjjbob⟩
      ·
       revert H
       refine itG_ fun c19 H => ?_
       have c19b0 := eq_true c19
       have c19b1 := decide_eq_true c19
       clear c19
       obtain ⟨y110, hy110⟩ : ∃ y_ : List ByteArray, y_ = (t104.drop (1 : Int).toNat) := ⟨_, rfl⟩
       replace H : (some (y110, true)) = some (r1, r2) := by cases hy110; exact H
       have Ny110 := aa hy110
       clear hy110
       simp only [Option.some.injEq, Prod.mk.injEq] at H
       obtain ⟨rfl, rfl⟩ := H
       obtain ⟨Ao20, co20, eo20⟩ := Kd.R_slice HO_4.out
       subst eo20
       have q21 : (1 : Int) ≤ ((t104.length : Int) : Int) := of_decide_eq_true zgglam
       obtain ⟨i021, hi021, _, hsz21, _⟩ := info_parts info9
       have hcut21 := cut_from (P := Tryd.prog) 38 9 .i64 Tryd.underlying38 hi021 1 hsz21 Ao20 t104.length co20 1 (by omega) q21
       have hr21 := Kd.Q_drop (k := (1 : Int).toNat) (Kd.Q_of_R HO_4.out) (by omega)
       obtain ⟨A21, hA21⟩ : ∃ A1, A1 = (if co20 = (1 : Int).toNat then Ao20 else (Ao20 : Option Addr).map (·.add ((1 : Int).toNat * 1))) := ⟨_, rfl⟩
       obtain ⟨c21, hc21⟩ : ∃ c1, c1 = co20 - (1 : Int).toNat := ⟨_, rfl⟩
       have hy21 : y110.length = t104.length - (1 : Int).toNat := (by rw [Ny110.out, List.length_drop])
       rw [← Ny110.out] at hr21
       rw [← hy21, ← hA21, ← hc21] at hcut21
       replace hr21 : Kd.Q Kd.string 9 wr w.heap.size (fun _ => True) (.slice A21 y110.length c21) y110 := (by rw [hA21, hc21, hy21]; exact hr21)
       have HE21 : Aside0 ((Value.slice A21 y110.length c21).ownBlock = (.slice Ao20 t104.length co20 : Value).ownBlock) := ⟨by rw [hA21]; split <;> (cases (Ao20 : Option Addr) <;> rfl)⟩
       clear hy21 hi021 hsz21 HO_4 hA21 hc21
       have HO112 := aa hr21
       clear hr21
       replace q21 := eq_true q21
       go_wp2
       go_ret2
       exact ⟨_, zlhpib, by (with_reducible repeat (first | apply Kd.Q_alloc | apply Kd.Q_drewN | apply Kd.Q_drew)); exact HO112.out, zjjbob⟩
def spec_l1Fault.j0 : Nat → ByteArray → Bool → Option (Int)
 | 0, _, _ => none
 | k + 1, x0, x17 => if x17 = true then (some 2) else ((spec_l1Names.f k x0).bind fun bt104 => (if bt104.2 = true then (some 0) else (some 5)))
def spec_l1Fault.f (k : Nat) (a0 : ByteArray) : Option (Int) := if (a0.size : Int) > 24 then (spec_l1Fault.j0 k a0 true) else (if a0.toList = ([47] : List UInt8) then (spec_l1Fault.j0 k a0 false) else ((spec_l1Cut.f k a0 47).bind fun t101 => (spec_l1Fault.j0 k a0 (decide ((t101.length : Int) > 5)))))
theorem spec_l1Fault.mono_l : ∀ k, (∀ y0 y1, LeO (spec_l1Fault.j0 k y0 y1) (spec_l1Fault.j0 (k + 1) y0 y1))
 | 0 => fun _ _ r h => by simp [spec_l1Fault.j0] at h
 | k + 1 => by
  have ih0 := spec_l1Fault.mono_l k
  ·
   intro y0 y1
   unfold spec_l1Fault.j0
   with_reducible repeat' first | exact ih0 _ _ | exact spec_l1Cut.mono _ _ _ | exact spec_l1Names.mono _ _ | exact LeO.refl _ | exact LeO.none _ | refine LeO.ite ?_ ?_ | refine LeO.bind ?_ (fun _ => ?_)
theorem spec_l1Fault.mono : ∀ a0 k, LeO (spec_l1Fault.f k a0) (spec_l1Fault.f (k + 1) a0) := by
 intro a0 k
 have ih0 := spec_l1Fault.mono_l k
 unfold spec_l1Fault.f
 with_reducible repeat' first | exact ih0 _ _ | exact spec_l1Cut.mono _ _ _ | exact spec_l1Names.mono _ _ | exact LeO.refl _ | exact LeO.none _ | refine LeO.ite ?_ ?_ | refine LeO.bind ?_ (fun _ => ?_)
theorem spec_l1Fault.calls (k : Nat) (a0 : ByteArray) (r : Int) (w : World) (h : spec_l1Fault.f k a0 = some r) :
  Calls Tryd.prog 62 #[.string a0] w fun e w' => e = .returned (.int .i64 r) ∧ Below w.heap.size w w' := by
 have HB := aa (Below.refl w.heap.size w)
 have H : (if (a0.size : Int) > 24 then (spec_l1Fault.j0 k a0 true) else (if a0.toList = ([47] : List UInt8) then (spec_l1Fault.j0 k a0 false) else ((spec_l1Cut.f k a0 47).bind fun t101 => (spec_l1Fault.j0 k a0 (decide ((t101.length : Int) > 5)))))) = some r := h
 clear h
 have HC2 := aa H
 clear H
 go_enter Tryd.func62, Tryd.ntmps62
 go_upto_region 1 with (fail)
 go_cut [17] (fun v17 wc => ∃ (kq : Nat) (x17_1 : Bool), v17 = .bool x17_1 ∧ Aside0 (spec_l1Fault.j0 kq a0 x17_1 = some r) ∧ Aside0 (kq ≤ k) ∧ Aside0 (Below w.heap.size w wc))
 case first =>
  have H := HC2.out
  clear HC2
  revert H
  refine itC_ (fun c3 H => ?_) fun c3 H => ?_
  ·
   have c3b0 : decide (24 < (a0.size : Int)) = true := decide_eq_true c3
   have c3b1 : decide (24 < a0.size) = true := decide_eq_true (by omega)
   clear c3
   (first | rw [c3b0] | (simp only [i64_w, i32_w]; rw [c3b0]) | (simp only [c3b2, Bool.not_false, Bool.not_true]) | skip)
   have H' := aa H
   clear H
   go_wp2
   go_meet
   case rel => exact ⟨_, (true), zagbkp, H', ⟨zpacfg⟩, ⟨zjjbob⟩⟩
  have c3b0 : decide (24 < (a0.size : Int)) = false := decide_eq_false c3
  have c3b1 : decide (24 < a0.size) = false := decide_eq_false (by omega)
  clear c3
  (first | rw [c3b0] | (simp only [i64_w, i32_w]; rw [c3b0]) | (simp only [c3b2, Bool.not_false, Bool.not_true]) | skip)
  revert H
  refine itE_ (fun c4b0 c4b1 H => ?_) fun c4b0 c4b1 H => ?_
  ·
   have H' := aa H
   clear H
   go_wp2
   go_meet
   case rel => exact ⟨_, (false), zagbkp, H', ⟨zpacfg⟩, ⟨zjjbob⟩⟩
  revert H
  refine obs_ fun t101 A5 H => ?_
  have H' := aa H
  clear H
  go_wp2_with (first | (go_at_call 80; (with_reducible refine (spec_l1Cut.calls k a0 47 t101 _ A5.out).mono ?_); rintro e w6 ⟨v102, rfl, ho0, hb⟩; have HO103 := aa (Kd.R_lower ho0 (below_size zjjbob)); replace HB := aa (below_step zjjbob hb); (try clear hb hk hi ho0); obtain ⟨Ao7, co7, eo7⟩ := Kd.R_slice HO103.out; subst eo7))
  go_meet
  case rel => exact ⟨_, (decide ((t101.length : Int) > 5)), zagbkp, H', ⟨zpacfg⟩, ⟨zjjbob⟩⟩
 case rest =>
  clear HC2
  try clear p2
  try clear c3
  try clear c3b0
  try clear c3b1
  try clear c3b2
  try clear c4b0
  try clear c4b1
  obtain ⟨kq, x17_1, rfl, HA, HJ1, HB⟩ := hcut
  cases kq with
  | zero => exact absurd HA.out (by simp [spec_l1Fault.j0])
  | succ kj1 =>
   have H := HA.out
   clear HA
   simp only [spec_l1Fault.j0] at H
   by_cases c8 : x17_1 = true
   ·
    subst c8
    rw [if_pos rfl] at H
    obtain rfl := Option.some.inj H
    go_wp2
    go_ret
    exact ⟨zlhpib, zjjbob⟩
   ·
    replace c8 := Bool.eq_false_iff.mpr c8
    subst c8
    rw [if_neg fT_] at H
    revert H
    refine ob2_ fun t104 t105 A9 H => ?_
    (try dsimp only at H)
    by_cases c10 : t105 = true
    ·
     subst c10
     rw [if_pos rfl] at H
     obtain rfl := Option.some.inj H
     go_wp2_with (first | (refine gc_ Tryd.func81 (some 20) #[.string a0] ?_; (with_reducible refine (spec_l1Names.calls kj1 a0 t104 true _ A9.out).mono ?_); rintro e w11 ⟨v106, rfl, ho0, hb⟩; refine ⟨_, rfl, ?_⟩; have HO107 := aa (Kd.Q_lower ho0 (below_size zjjbob)); replace HB := aa (below_step zjjbob hb); (try clear hb hk hi ho0)))
     go_ret
     exact ⟨zlhpib, zjjbob⟩
    replace c10 := Bool.eq_false_iff.mpr c10
    subst c10
    rw [if_neg fT_] at H
    obtain rfl := Option.some.inj H
    go_wp2_with (first | (refine gc_ Tryd.func81 (some 20) #[.string a0] ?_; (with_reducible refine (spec_l1Names.calls kj1 a0 t104 false _ A9.out).mono ?_); rintro e w12 ⟨v106, rfl, ho0, hb⟩; refine ⟨_, rfl, ?_⟩; have HO107 := aa (Kd.Q_lower ho0 (below_size zjjbob)); replace HB := aa (below_step zjjbob hb); (try clear hb hk hi ho0)))
    go_ret
    exact ⟨zlhpib, zjjbob⟩
def spec_l2Owner.f (a0 : Int) : Option (Bool) := (spec_l1In.f a0 0 9).bind fun t101 => (some t101)
theorem spec_l2Owner.calls (a0 : Int) (r : Bool) (w : World) (h : spec_l2Owner.f a0 = some r) :
  Calls Tryd.prog 74 #[.int .i64 a0] w fun e w' => e = .returned (.bool r) ∧ Drawn0 w w' := by
 have H : ((spec_l1In.f a0 0 9).bind fun t101 => (some t101)) = some r := h
 clear h
 revert H
 refine obs_ fun t101 A2 H => ?_
 obtain rfl := Option.some.inj H
 go_enter Tryd.func74, Tryd.ntmps74
 go_wp2_with (first | (refine gc_ Tryd.func57 (some 4) #[.int .i64 a0, .int .i64 0, .int .i64 9] ?_; (with_reducible refine (spec_l1In.calls a0 0 9 t101 _ A2.out).mono ?_); rintro e w' ⟨rfl, ⟨nd, rfl⟩⟩; refine ⟨_, rfl, ?_⟩))
 go_ret
 exact ⟨zagbkp, ziajdh⟩
end Go.Proofs.YtegggpipggniaaaDoor.Qa