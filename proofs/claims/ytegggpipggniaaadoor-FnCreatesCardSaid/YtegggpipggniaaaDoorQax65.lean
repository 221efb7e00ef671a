import Derived.Test.YtegggpipggniaaaDoorQax0
namespace Go.Proofs.YtegggpipggniaaaDoor.Qa
open Go.RowKit Go.Proofs.YtegggpipggniaaaDoorW.PrintWords Go.Proofs.YtegggpipggniaaaDoorW.PrintLast Go.Proofs.YtegggpipggniaaaDoorW.PrintMore
attribute [local go_sem] max2_int min2_int max_two min_two max_three min_three max_four min_four
set_option linter.unusedVariables false
set_option linter.unusedSimpArgs false
set_option maxHeartbeats 8000000
set_option maxRecDepth 100000

/-! ### slices_Insert_impl_Znode_impl_Znode: function 45 -/
section
open Go.Lib Go.Proofs.YtegggpipggniaaaDoor.Raw
def slices_Insert_impl_Znode_impl_Znode.f (l0 : List S32) (a1 : Int) (l2 : List S32) : Option (List S32) := if 0 ≤ a1 then (if a1 ≤ (l0.length : Int) then (if l2.length = 1 then (if l0.length < 1048576000 then (some (l0.take a1.toNat ++ l2 ++ l0.drop a1.toNat)) else none) else none) else none) else none
theorem slices_Insert_impl_Znode_impl_Znode.kM (w w1 : World) (base : Nat) (ok : Nat → Prop) (x : S32) (cs : List Value) (h : k32.K w x cs) : k32.M w1 base ok x cs := h
/-- there is room, and the place is ahead of the end -/
theorem slices_Insert_impl_Znode_impl_Znode.shift (g cap : Nat) (cur : Array Value) (l0 : List S32) (i : Nat) (vb : Nat) (voff c2 : Nat) (arr : Array Value) (tv : TypeId) (x : S32) (cx : List Value) (w : World) (hi : i < l0.length) (hroom : l0.length + 1 ≤ cap) (hcm : cap ≤ 9223372036854775807)
  (hg : w.heap[g]? = some (.cells cur 32 (0, 0))) (hcs : cur.size = cap * 5) (hv : w.heap[vb]? = some (.cells arr tv (0, 0))) (hne : vb ≠ g) (h1 : ∀ v ∈ cur.toList.take (l0.length * 5), v.oneCell' = true)
  (hcx : cx.length = 5) (hx1 : ∀ v ∈ cx, v.oneCell' = true) (hxc : ∀ j v, cx[j]? = some v → w.cell? ⟨vb, voff + j, none⟩ = some v) :
  Calls Tryd.prog 45 #[.slice (some ⟨g, 0, none⟩) l0.length cap, .int .i64 i, .slice (some ⟨vb, voff, none⟩) 1 c2] w fun e w' =>
   ∃ arr2 : Array Value, e = .returned (.slice (some ⟨g, 0, none⟩) (l0.length + 1) cap) ∧ w' = w.drew.setRow g arr2 ∧ arr2.size = cur.size ∧ arr2.toList.take ((l0.length + 1) * 5) = (cur.toList.take (l0.length * 5)).take (i * 5) ++ cx ++ (cur.toList.take (l0.length * 5)).drop (i * 5) := by
 have hov : ∀ o lb cb, (callFunc 70 #[.slice (some ⟨vb, voff, none⟩) 1 c2, .slice (some ⟨g, o, none⟩) lb cb]).run Tryd.prog w = .ok (.value (.bool false)) w := fun o lb cb => by
  rw [run_callFunc_extern Tryd.func70 (by kernel_rfl) (by kernel_rfl) (by kernel_rfl) (e := Extern.SlicesOverlaps.overlaps #[24, 24] #[4]) (by kernel_rfl),
   Lib.run_overlaps_apart w 24 4 32 Tryd.underlying24 5 Tryd.sizeOf32 ⟨vb, voff, none⟩ ⟨g, o, none⟩ 1 c2 lb cb hne tv 32 arr.size cur.size (by simp [World.shape?, hv]) (by simp [World.shape?, hg]) (by omega) (by simp [World.frozen?, hv]) (by simp [World.frozen?, hv])]
  rfl
 have hz2 : ¬ ((i : Int) = (l0.length : Int)) := by omega
 have hw1 : IntKind.i64.wrap ((i : Int) + 1) = (i : Int) + 1 := by rw [IntKind.wrap_i64]; omega
 have hb1 : (0 : Int) ≤ (i : Int) + 1 := by omega
 have hin : i ≤ l0.length := by omega
 have htn : ((i : Int) + 1).toNat = i + 1 := by omega
 have hb2 : ¬ (cap = i + 1) := by omega
 have hb3 : (i : Int) ≤ (l0.length : Int) + 1 := by omega
 have hb4 : ¬ (cap = i) := by omega
 have hLl : cur.toList.length = cap * 5 := by rw [Array.length_toList]; exact hcs
 have hfl : l0.length * 5 + 5 ≤ cur.toList.length := by rw [hLl]; omega
 have hsz : (Tryd.prog.info? 32).map (·.size) = some 5 := by kernel_rfl
 have ho1 : ∀ v ∈ (cur.toList.drop (i * 5)).take (l0.length * 5 - i * 5), v.oneCell' = true := fun v hv => h1 v (by
  rw [← List.drop_take] at hv
  exact List.mem_of_mem_drop hv)
 have hTl : ((cur.toList.drop (i * 5)).take (l0.length * 5 - i * 5)).length = (l0.length - i) * 5 := by rw [List.length_take, List.length_drop]; omega
 obtain ⟨TAIL, hTAIL⟩ : ∃ TAIL, TAIL = (cur.toList.drop (i * 5)).take (l0.length * 5 - i * 5) := ⟨_, rfl⟩
 have hcp1 : ∀ ty dc sc, (Builtin.copy_ #[24, 24] ty #[.slice (some ⟨g, (i + 1) * 5, none⟩) (l0.length - i) dc, .slice (some ⟨g, i * 5, none⟩) (l0.length + 1 - i) sc]).run Tryd.prog w.drew = _ := fun ty dc sc =>
  run_copy_wide w.drew 24 24 ty 32 g ((i + 1) * 5) (l0.length - i) dc ⟨g, i * 5, none⟩ (l0.length + 1 - i) sc 5 cur 32 TAIL Tryd.underlying24 hsz hg (by rw [hTAIL, hTl]; simp only [Nat.min_def]; split <;> omega)
   (fun j v hj => by
    rw [hTAIL, List.getElem?_take] at hj
    split at hj
    ·
     rw [List.getElem?_drop] at hj
     rw [Addr.add_lit, cell_row w.drew g cur 32 (0, 0) hg, ← Array.getElem?_toList]
     exact hj
    ·
     cases hj)
   (by rw [hTAIL, hTl, hcs]; omega) (by rw [hTAIL]; exact ho1)
 obtain ⟨L1, hL1⟩ : ∃ L1, L1 = cur.toList.take ((i + 1) * 5) ++ TAIL ++ cur.toList.drop ((i + 1) * 5 + TAIL.length) := ⟨_, rfl⟩
 have hs := shift_list cur.toList cx (i * 5) (l0.length * 5) 5 (by omega) hfl hcx
 rw [← hTAIL, show i * 5 + 5 = (i + 1) * 5 by omega, ← hL1] at hs
 obtain ⟨hs1, hs2, hs3⟩ := hs
 rw [← hL1] at hcp1
 obtain ⟨W1, hW1⟩ : ∃ W1, W1 = w.drew.setRow g L1.toArray := ⟨_, rfl⟩
 have hg1 : W1.heap[g]? = some (.cells L1.toArray 32 (0, 0)) := by rw [hW1]; exact row_of w.drew g cur _ 32 (0, 0) hg
 have hcp2 : ∀ ty dc, (Builtin.copy_ #[24, 24] ty #[.slice (some ⟨g, i * 5, none⟩) (l0.length + 1 - i) dc, .slice (some ⟨vb, voff, none⟩) 1 c2]).run Tryd.prog W1 = _ := fun ty dc =>
  run_copy_wide W1 24 24 ty 32 g (i * 5) (l0.length + 1 - i) dc ⟨vb, voff, none⟩ 1 c2 5 L1.toArray 32 cx Tryd.underlying24 hsz hg1 (by rw [hcx]; simp only [Nat.min_def]; split <;> omega)
   (fun j v hj => by
    rw [Addr.add_lit, World.cell?_of_block (w := w) (by rw [hW1]; exact other_of w.drew g vb _ hne)]
    exact hxc j v hj)
   (by rw [hcx, List.size_toArray, hs1]; omega) hx1
 rw [← hW1] at hcp1
 obtain ⟨L2, hL2⟩ : ∃ L2, L2 = L1.take (i * 5) ++ cx ++ L1.drop (i * 5 + cx.length) := ⟨_, rfl⟩
 rw [← hL2] at hs2 hs3 hcp2
 have AL2 := aa hL2
 have AW1 := aa hW1
 have AL1 := aa hL1
 have AT := aa hTAIL
 clear hW1 hL1 hTAIL hL2
 have mixed : Tryd.prog.follows .mixedOrders = true := by kernel_rfl
 go_enter Tryd.func45, Tryd.ntmps45
 go_wp2_with (simp only [hov])
 go_region_law_o (refine ev_copy_drawn rfl _ _ 24 24 rfl _ _ (by simp [Act.eval, Act.put]) (by simp [Act.eval, Act.put]) (hcp1 _ _ _) ?_)
 go_wp2_with (at_builtin; refine ev_copy rfl _ _ 24 24 rfl _ _ rfl rfl (hcp2 _ _) ?_)
 go_ret
 refine ⟨_, rfl, by rw [AW1.out, setRow_setRow], ?_, ?_⟩
 ·
  rw [List.size_toArray, hs2, Array.length_toList]
 rw [show (l0.length + 1) * 5 = l0.length * 5 + 5 by omega]
 show List.take (l0.length * 5 + 5) L2 = _
 rw [hs3, AT.out, List.take_take, Nat.min_eq_left (by omega), List.drop_take]
theorem heap_alloc_old (w : World) (o : Obj) (k : Nat) (h : k < w.heap.size) : (w.alloc o).heap[k]? = w.heap[k]? := by
 simp only [World.alloc]
 rw [Array.getElem?_push_lt h, Array.getElem?_eq_getElem h]
/-- no room, and the place is ahead of the end -/
theorem slices_Insert_impl_Znode_impl_Znode.grow (g cap : Nat) (cur : Array Value) (l0 : List S32) (i : Nat) (vb : Nat) (voff c2 : Nat) (x : S32) (cx : List Value) (w : World) (hi : i < l0.length) (hnc : l0.length ≤ cap) (hroom : cap < l0.length + 1) (hbig : l0.length < 1048576000)
  (hg : w.heap[g]? = some (.cells cur 32 (0, 0))) (hcs : cur.size = cap * 5) (h1 : ∀ v ∈ cur.toList.take (l0.length * 5), v.oneCell' = true)
  (hcx : cx.length = 5) (hx1 : ∀ v ∈ cx, v.oneCell' = true) (hxc : ∀ j v, cx[j]? = some v → w.cell? ⟨vb, voff + j, none⟩ = some v) :
  Calls Tryd.prog 45 #[.slice (some ⟨g, 0, none⟩) l0.length cap, .int .i64 i, .slice (some ⟨vb, voff, none⟩) 1 c2] w fun e w' =>
   ∃ (cap2 : Nat) (arr2 : Array Value), e = .returned (.slice (some ⟨w.heap.size, 0, none⟩) (l0.length + 1) cap2) ∧ l0.length + 1 ≤ cap2 ∧ cap2 ≤ maxLen ∧ w.grownBy w' none ∧ w'.heap[w.heap.size]? = some (.cells arr2 32 (0, 0)) ∧ arr2.size = cap2 * 5 ∧ arr2.toList.take ((l0.length + 1) * 5) = (cur.toList.take (l0.length * 5)).take (i * 5) ++ cx ++ (cur.toList.take (l0.length * 5)).drop (i * 5) := by
 obtain ⟨i0, hi0, hzz⟩ := Option.map_eq_some_iff.1 info32
 simp only [Prod.mk.injEq] at hzz
 obtain ⟨hz0, hzs, hzb⟩ := hzz
 have hgw : g < w.heap.size := (Array.getElem?_eq_some_iff.1 hg).1
 have hvw : vb < w.heap.size := World.block_lt_of_cell? w ⟨vb, voff + 0, none⟩ (hxc 0 _ (List.getElem?_eq_getElem (by omega)))
 have hLl : cur.toList.length = cap * 5 := by rw [Array.length_toList]; exact hcs
 have hsz : (Tryd.prog.info? 32).map (·.size) = some 5 := by kernel_rfl
 have ho1 : ∀ v ∈ (cur.toList.drop (i * 5)).take (l0.length * 5 - i * 5), v.oneCell' = true := fun v hv => h1 v (by
  rw [← List.drop_take] at hv
  exact List.mem_of_mem_drop hv)
 have hTl : ((cur.toList.drop (i * 5)).take (l0.length * 5 - i * 5)).length = (l0.length - i) * 5 := by rw [List.length_take, List.length_drop]; omega
 obtain ⟨TAIL, hTAIL⟩ : ∃ TAIL, TAIL = (cur.toList.drop (i * 5)).take (l0.length * 5 - i * 5) := ⟨_, rfl⟩
 rw [← hTAIL] at ho1 hTl
 have hTc : ∀ j v, TAIL[j]? = some v → w.cell? ⟨g, i * 5 + j, none⟩ = some v := fun j v hj => by
  rw [hTAIL, List.getElem?_take] at hj
  split at hj
  ·
   rw [List.getElem?_drop] at hj
   rw [cell_row w g cur 32 (0, 0) hg, ← Array.getElem?_toList]
   exact hj
  ·
   cases hj
 have hkk : (l0.length : Int) + 1 - (i : Int) = ((l0.length + 1 - i : Nat) : Int) := by omega
 have hik : i + (l0.length + 1 - i) = l0.length + 1 := by omega
 have hpl : (cur.toList.take (i * 5)).length = i * 5 := by rw [List.length_take]; omega
 have hold : (Builtin.firstCells i0.size i (.slice (some ⟨g, 0, none⟩) i cap)).run Tryd.prog w.drew = .ok (cur.toList.take (i * 5)).toArray w.drew := by
  rw [hzs]
  exact run_firstCells_some w.drew 5 i ⟨g, 0, none⟩ i cap (cur.toList.take (i * 5)) hpl (fun j v hj => by
   rw [Addr.add_lit, cell_row w.drew g cur 32 (0, 0) hg, ← Array.getElem?_toList, Nat.zero_add]
   rw [List.getElem?_take] at hj
   split at hj
   ·
    exact hj
   ·
    cases hj)
 obtain ⟨GC, hGC⟩ : ∃ GC, GC = grownCap w (l0.length + 1) cap 32 := ⟨_, rfl⟩
 obtain ⟨ROW, hROW⟩ : ∃ ROW : Array Value, ROW = (cur.toList.take (i * 5)).toArray ++ Builtin.zeroCells ((.agg #[(.string ⟨#[]⟩), (.int .i64 0), (.int .i64 0), (.int .i64 0), (.int .i64 0)]) : Value).cells (l0.length + 1 - i) ++ Builtin.zeroCells ((.agg #[(.string ⟨#[]⟩), (.int .i64 0), (.int .i64 0), (.int .i64 0), (.int .i64 0)]) : Value).cells (GC - (l0.length + 1)) := ⟨_, rfl⟩
 have hrz : ∀ ty, (Builtin.append_ #[24, 3] ty #[.slice (some ⟨g, 0, none⟩) i cap, .int .i64 ((l0.length : Int) + 1 - (i : Int))]).run Tryd.prog w = .ok (.slice (some ⟨w.heap.size, 0, none⟩) (l0.length + 1) GC) (w.drew.alloc (.cells ROW 32)) := fun ty => by
  have h := Lib.run_append_grow_zeros w 24 3 ty 32 i0 _ .i64 .i64 Tryd.underlying24 Tryd.underlying3 hi0 hz0 (some ⟨g, 0, none⟩) i cap (cur.toList.take (i * 5)) hold (l0.length + 1 - i) (by omega) (by omega) (by omega) (by omega) (by rw [hzb]; omega) (by rw [hzb, hik]; exact growslice_fits hroom (by omega))
  rw [hik, ← hGC, ← hROW] at h
  rw [hkk]
  exact h
 have hGn : l0.length + 1 ≤ GC := by rw [hGC]; exact grownCap_ge w _ _ _
 have hGm : GC ≤ maxLen := by rw [hGC]; exact grownCap_le_maxLen w _ _ _ (by unfold maxLen; omega)
 have hRs : ROW.size = GC * 5 := by
  rw [hROW]
  simp [Builtin.zeroCells, Value.cells]
  omega
 have hRl : ROW.toList.length = GC * 5 := (Array.length_toList (xs := ROW)).trans hRs
 have hRt : ROW.toList.take (i * 5) = cur.toList.take (i * 5) := by
  rw [hROW, Array.toList_append, Array.toList_append, List.append_assoc]
  exact List.take_left' hpl
 have hgl := grow_list ROW.toList (cur.toList.take (i * 5)) cx TAIL (i * 5) 5 ((l0.length - i) * 5) hRt hcx hTl (by rw [hRl]; omega)
 obtain ⟨L1, hL1⟩ : ∃ L1, L1 = ROW.toList.take (i * 5) ++ cx ++ ROW.toList.drop (i * 5 + cx.length) := ⟨_, rfl⟩
 rw [← hL1, show i * 5 + 5 = (i + 1) * 5 by omega] at hgl
 obtain ⟨hs1, hs2, hs3⟩ := hgl
 obtain ⟨L2, hL2⟩ : ∃ L2, L2 = L1.take ((i + 1) * 5) ++ TAIL ++ L1.drop ((i + 1) * 5 + TAIL.length) := ⟨_, rfl⟩
 rw [← hL2] at hs2 hs3
 obtain ⟨W1, hW1⟩ : ∃ W1, W1 = w.drew.alloc (.cells ROW 32) := ⟨_, rfl⟩
 rw [← hW1] at hrz
 have hg1 : W1.heap[w.heap.size]? = some (.cells ROW 32 (0, 0)) := by rw [hW1]; exact heap_alloc_new w.drew _
 have hold1 : ∀ k, k < w.heap.size → W1.heap[k]? = w.heap[k]? := fun k hk => by rw [hW1]; exact heap_alloc_old w.drew _ k hk
 have hsz1 : W1.heap.size = w.heap.size + 1 := by rw [hW1]; exact Array.size_push _
 have hcpA : ∀ (W : World), W.heap = W1.heap → ∀ ty dc, (Builtin.copy_ #[24, 24] ty #[.slice (some ⟨w.heap.size, i * 5, none⟩) (l0.length + 1 - i) dc, .slice (some ⟨vb, voff, none⟩) 1 c2]).run Tryd.prog W = .ok (goInt (Nat.min 1 (l0.length + 1 - i))) (W.setRow w.heap.size L1.toArray) := fun W hW ty dc => by
  rw [hL1]
  exact run_copy_wide W 24 24 ty 32 w.heap.size (i * 5) (l0.length + 1 - i) dc ⟨vb, voff, none⟩ 1 c2 5 ROW 32 cx Tryd.underlying24 hsz (by rw [hW]; exact hg1) (by rw [hcx]; simp only [Nat.min_def]; split <;> omega)
   (fun j v hj => by
    rw [Addr.add_lit, World.cell?_of_block (w := w) (by rw [hW]; exact hold1 vb hvw)]
    exact hxc j v hj)
   (by rw [hcx, hRs]; omega) hx1
 have hcpB : ∀ (W : World), W.heap = (W1.setRow w.heap.size L1.toArray).heap → ∀ ty dc sc, (Builtin.copy_ #[24, 24] ty #[.slice (some ⟨w.heap.size, (i + 1) * 5, none⟩) (l0.length - i) dc, .slice (some ⟨g, i * 5, none⟩) (l0.length - i) sc]).run Tryd.prog W = .ok (goInt (Nat.min (l0.length - i) (l0.length - i))) (W.setRow w.heap.size L2.toArray) := fun W hW ty dc sc => by
  rw [hL2]
  exact run_copy_wide W 24 24 ty 32 w.heap.size ((i + 1) * 5) (l0.length - i) dc ⟨g, i * 5, none⟩ (l0.length - i) sc 5 L1.toArray 32 TAIL Tryd.underlying24 hsz (by rw [hW]; exact row_of W1 _ ROW _ 32 (0, 0) hg1) (by rw [hTl]; simp only [Nat.min_def]; split <;> omega)
   (fun j v hj => by
    rw [Addr.add_lit, World.cell?_of_block (w := w) (by rw [hW, other_of W1 _ g _ (by omega)]; exact hold1 g hgw)]
    exact hTc j v hj)
   (by rw [hTl, List.size_toArray, hs1, hRl]; omega) ho1
 have hF : ((W1.setRow w.heap.size L1.toArray).drew).heap = (W1.setRow w.heap.size L1.toArray).heap := rfl
 have hb1 : (0 : Int) ≤ (i : Int) + 1 := by omega
 have hin : i ≤ l0.length := by omega
 have htn : ((i : Int) + 1).toNat = i + 1 := by omega
 have hw1 : IntKind.i64.wrap ((i : Int) + 1) = (i : Int) + 1 := by rw [IntKind.wrap_i64]; omega
 have hz2 : ¬ ((i : Int) = (l0.length : Int)) := by omega
 have hz3 : (cap : Int) < (l0.length : Int) + 1 := by omega
 have hGi : ¬ (GC = i) := by omega
 have hGim : ¬ (GC = i + 1) := by omega
 have hci : ¬ (cap = i) := by omega
 have hGi1 : i + 1 ≤ GC := by omega
 have hG63 : GC ≤ 9223372036854775807 := by unfold maxLen at hGm; omega
 have hb3 : (i : Int) ≤ (l0.length : Int) := by omega
 have AW1 := aa hW1
 have AL1 := aa hL1
 have AL2 := aa hL2
 have AT := aa hTAIL
 have AG := aa hGC
 have AR := aa hROW
 have Aold := aa hold1
 clear hW1 hL1 hL2 hTAIL hGC hROW hold1 hkk hik hold
 have mixed : Tryd.prog.follows .mixedOrders = true := by kernel_rfl
 go_enter Tryd.func45, Tryd.ntmps45
 go_wp2_with (first
  | (at_builtin; refine Lib.wpList_append_run _ rfl _ _ _ _ rfl _ _ rfl rfl _ _ (hrz _) ?_)
  | (at_builtin; refine ev_copy rfl _ _ 24 24 rfl _ _ rfl rfl (hcpA _ rfl _ _) ?_))
 go_region_law_o (refine ev_copy_drawn rfl _ _ 24 24 rfl _ _ (by simp [Act.eval, Act.put]) (by simp [Act.eval, Act.put]) (hcpB _ hF _ _ _) ?_)
 go_wp2
 go_ret
 refine ⟨GC, L2.toArray, rfl, hGn, hGm, ⟨?_, ?_, ?_, ?_, ?_⟩, ?_, ?_, ?_⟩
 ·
  exact (show W1.os = w.os by rw [AW1.out]; rfl)
 ·
  exact (show W1.tape = w.tape by rw [AW1.out]; rfl)
 ·
  exact (show W1.output = w.output by rw [AW1.out]; rfl)
 ·
  simp [size_of, hsz1]
 ·
  intro k hk _
  have hne : k ≠ w.heap.size := by omega
  rw [other_of _ _ _ _ hne]
  exact (other_of W1 _ k _ hne).trans (Aold.out k hk)
 ·
  exact row_of _ _ L1.toArray _ 32 (0, 0) (row_of W1 _ ROW _ 32 (0, 0) hg1)
 ·
  rw [List.size_toArray, hs2, hRl]
 show List.take ((l0.length + 1) * 5) L2 = _
 rw [show (l0.length + 1) * 5 = (i + 1) * 5 + (l0.length - i) * 5 by omega, hs3, AT.out, List.take_take, Nat.min_eq_left (by omega), List.drop_take]
/-- at the end -/
theorem slices_Insert_impl_Znode_impl_Znode.last (v0 : Value) (l0 : List S32) (A2 : Option Addr) (c2 : Nat) (l2 : List S32) (P0_ : Nat → Prop) (w0 w : World) (hbig : l0.length < 1048576000) (hl2 : l2.length = 1)
  (hB : Below w0.heap.size w0 w) (ho0 : Kd.R k32 32 w w0.heap.size P0_ v0 l0) (hr2 : Kd.C k32 w A2 l2.length l2) :
  Calls Tryd.prog 45 #[v0, .int .i64 l0.length, .slice A2 l2.length c2] w fun e w' =>
   ∃ v1 : Value, e = .returned v1 ∧ Kd.R k32 32 w' w0.heap.size (fun k => P0_ k ∨ w.heap.size ≤ k) v1 (l0 ++ l2) ∧ Below w0.heap.size w0 w' ∧ w.grownBy w' v0.ownBlock := by
 obtain ⟨A, c, rfl⟩ := Kd.R_slice ho0
 have HO := aa (Kd.R_mono (ok' := fun k => P0_ k ∨ w.heap.size ≤ k) ho0 (fun k hk => .inl hk))
 have HB := aa hB
 have HC := aa hr2
 have hlc : l0.length ≤ c := by
  obtain ⟨A', c', he, h, _⟩ := Kd.R_reads ho0
  injection he with _ _ he
  subst he
  exact h
 have hW0 := aa hB.size
 rw [hl2]
 rw [hl2] at HC
 clear hB ho0 hr2
 cases A with
 | none =>
  have h0 : l0.length = 0 := by
   obtain ⟨A', c', he, _, hr⟩ := Kd.R_reads HO.out
   injection he with he
   subst he
   rcases Nat.eq_zero_or_pos l0.length with h | h
   ·
    exact h
   ·
    obtain ⟨ad, he, _⟩ := hr.2.2 h
    cases he
  go_enter Tryd.func45, Tryd.ntmps45
  go_wp2_with (((with_reducible refine gate_builtin (b := .append) (xs := #[.tmp 23, .tmp 24]) rfl ?_); at_builtin; refine Kd.R_append_rows k32 (w0 := w0) w0.heap.size rfl (.tmp 23) (.tmp 24) 24 32 (.agg #[(.string ⟨#[]⟩), (.int .i64 0), (.int .i64 0), (.int .i64 0), (.int .i64 0)]) 48 rfl Tryd.underlying24 info32 rfl (by decide) (by omega) (.slice none l0.length c) l0 l2 _ _ _ (fun k => P0_ k ∨ w.heap.size ≤ k) (fun _ => False) rfl rfl HO.out HC.out (fun _ _ h => h) (fun _ h => h.elim) (fun k hk => .inr hk) HB.out hW0.out (by omega) ?_; intro v105 w5 ho hb hg hat))
  go_ret
  exact ⟨_, rfl, ho, hb, hg⟩
 | some ad =>
  obtain ⟨ab, ao, asp⟩ := ad
  go_enter Tryd.func45, Tryd.ntmps45
  go_wp2_with (((with_reducible refine gate_builtin (b := .append) (xs := #[.tmp 23, .tmp 24]) rfl ?_); at_builtin; refine Kd.R_append_rows k32 (w0 := w0) w0.heap.size rfl (.tmp 23) (.tmp 24) 24 32 (.agg #[(.string ⟨#[]⟩), (.int .i64 0), (.int .i64 0), (.int .i64 0), (.int .i64 0)]) 48 rfl Tryd.underlying24 info32 rfl (by decide) (by omega) (.slice (some ⟨ab, ao, asp⟩) l0.length c) l0 l2 _ _ _ (fun k => P0_ k ∨ w.heap.size ≤ k) (fun _ => False) rfl rfl HO.out HC.out (fun _ _ h => h) (fun _ h => h.elim) (fun k hk => .inr hk) HB.out hW0.out (by omega) ?_; intro v105 w5 ho hb hg hat))
  all_goals (go_ret; exact ⟨_, rfl, ho, hb, hg⟩)
theorem slices_Insert_impl_Znode_impl_Znode.calls (P0_ : Nat → Prop) (u9000_ : Value) (l0 : List S32) (a1 : Int) (A2 : Option Addr) (c2 : Nat) (l2 : List S32) (r : List S32) (w0 w : World) (hB : Below w0.heap.size w0 w) (ho0 : Kd.R k32 32 w w0.heap.size P0_ u9000_ l0) (hr2 : ∀ W_, Kept w W_ (fun k_ => P0_ k_) → Kd.C k32 W_ A2 l2.length l2) (hc2 : l2.length ≤ c2) (hx2 : ∀ ad, A2 = some ad → ∃ g o arr t, ad = ⟨g, o, none⟩ ∧ w.heap[g]? = some (.cells arr t (0, 0))) (h : slices_Insert_impl_Znode_impl_Znode.f l0 a1 l2 = some r) :
  Calls Tryd.prog 45 #[u9000_, .int .i64 a1, .slice A2 l2.length c2] w fun e w' => ∃ v0_ : Value, e = .returned (v0_) ∧ Kd.R k32 32 w' w0.heap.size (fun k_ => (P0_ k_ ∨ w.heap.size ≤ k_)) v0_ r ∧ Below w0.heap.size w0 w' ∧ Kept w w' (fun k_ => P0_ k_) := by
 unfold slices_Insert_impl_Znode_impl_Znode.f at h
 have q0 : 0 ≤ a1 := Decidable.byContradiction fun c => by rw [if_neg c] at h; cases h
 rw [if_pos q0] at h
 have q1 : a1 ≤ (l0.length : Int) := Decidable.byContradiction fun c => by rw [if_neg c] at h; cases h
 rw [if_pos q1] at h
 have q2 : l2.length = 1 := Decidable.byContradiction fun c => by rw [if_neg c] at h; cases h
 rw [if_pos q2] at h
 have q3 : l0.length < 1048576000 := Decidable.byContradiction fun c => by rw [if_neg c] at h; cases h
 rw [if_pos q3] at h
 obtain rfl := Option.some.inj h
 clear h
 obtain ⟨i, rfl⟩ := Int.eq_ofNat_of_zero_le q0
 rw [Int.toNat_natCast]
 have hok : ∀ k, u9000_.ownBlock = some k → P0_ k := ho0.1
 have hC := hr2 w (Kept.refl _ _)
 rcases Nat.lt_or_ge i l0.length with hi | hi
 ·
  obtain ⟨x, rfl⟩ := List.length_eq_one_iff.1 q2
  obtain ⟨ad, rfl, hcx⟩ := hC.2.2 (by simp)
  obtain ⟨cx, hcl, hcK, hcc⟩ := hcx 0 x rfl
  obtain ⟨vb, voff, arr, tv, rfl, hv⟩ := hx2 ad rfl
  have hcl' : cx.length = 5 := hcl
  have hxc : ∀ j v, cx[j]? = some v → w.cell? ⟨vb, voff + j, none⟩ = some v := fun j v hj => by
   have := hcc j v hj
   rwa [Nat.zero_mul, Nat.zero_add, Addr.add_lit] at this
  have hx1 : ∀ v ∈ cx, v.oneCell' = true := k32.K_one hcK
  obtain ⟨h0, inner, hown, hrp⟩ := ho0
  have hrK := reps_K hrp
  rcases hown with ⟨hil, ⟨rfl, hn⟩ | ⟨g, cap, cur, rfl, hbg, hg, hnc, hcm, hcs, hti⟩⟩
  ·
   omega
  have hcs' : cur.size = cap * 5 := hcs
  have hti' : cur.toList.take (l0.length * 5) = inner := hti
  have hil' : inner.length = l0.length * 5 := hil
  have hPg : P0_ g := hok g rfl
  have h1 : ∀ v ∈ cur.toList.take (l0.length * 5), v.oneCell' = true := by
   rw [hti']
   intro v hv
   obtain ⟨j, hj, rfl⟩ := List.getElem_of_mem hv
   have hjl : j / 5 < l0.length := by omega
   have hK := k32.K_one (hrK.2 (j / 5) _ (List.getElem?_eq_getElem hjl))
   refine hK _ (List.mem_iff_getElem?.2 ⟨j % 5, ?_⟩)
   have e5 : k32.sz = 5 := rfl
   rw [e5, List.getElem?_take, if_pos (Nat.mod_lt _ (by omega)), List.getElem?_drop, show j / 5 * 5 + j % 5 = j by omega]
   exact List.getElem?_eq_getElem hj
  have hput := reps_put hrK hcK i (Nat.le_of_lt hi)
  have e5 : i * k32.sz = i * 5 := rfl
  rw [e5] at hput
  have hpl : (l0.take i ++ [x] ++ l0.drop i).length = l0.length + 1 := by
   rw [List.length_append, List.length_append, List.length_take, List.length_drop, List.length_singleton]
   omega
  have hil2 : (inner.take (i * 5) ++ cx ++ inner.drop (i * 5)).length = (l0.length + 1) * 5 := by
   rw [List.length_append, List.length_append, List.length_take, List.length_drop, hcl', hil']
   omega
  have hne : vb ≠ g := by
   rintro rfl
   have hK : Kept w (w.setRow vb #[]) (fun k_ => P0_ k_) := ⟨by rw [size_of]; exact Nat.le_refl _, fun k _ hk => other_of w vb k _ (fun e => hk (by rw [e]; exact hPg))⟩
   obtain ⟨ad', he, hcx'⟩ := (hr2 _ hK).2.2 (by simp)
   injection he with he
   subst he
   obtain ⟨c', hl', _, hc'⟩ := hcx' 0 x rfl
   have hl5 : c'.length = 5 := hl'
   have := hc' 0 _ (List.getElem?_eq_getElem (by omega))
   rw [Nat.zero_mul, Nat.zero_add, Addr.add_lit, cell_row _ vb #[] tv (0, 0) (row_of w vb arr #[] tv (0, 0) hv)] at this
   simp at this
  rcases Nat.lt_or_ge cap (l0.length + 1) with hroom | hroom
  ·
   refine (slices_Insert_impl_Znode_impl_Znode.grow g cap cur l0 i vb voff c2 x cx w hi hnc hroom q3 hg hcs' h1 hcl' hx1 hxc).mono ?_
   rintro e w' ⟨cap2, arr2, rfl, hc1, hc2', hgr, hg2, hs2, ht2⟩
   have ho : w'.ownsRow w0.heap.size 32 5 (.slice (some ⟨w.heap.size, 0, none⟩) (l0.length + 1) cap2) (l0.take i ++ [x] ++ l0.drop i).length (inner.take (i * 5) ++ cx ++ inner.drop (i * 5)) := by
    rw [hpl]
    exact ⟨hil2, .inr ⟨_, cap2, arr2, rfl, hB.size, hg2, hc1, hc2', hs2, by rw [ht2, hti']⟩⟩
   refine ⟨_, rfl, R_flat k32 slices_Insert_impl_Znode_impl_Znode.kM (fun k hk => ?_) ho hput, pw_below_grown hB none hB.size hgr (fun k hk => by cases hk), Kept.of_grown hgr (Kept.refl _ _) (fun k hk => by cases hk)⟩
   have : w.heap.size = k := by simpa [Value.ownBlock] using hk
   exact .inr (by omega)
  refine (slices_Insert_impl_Znode_impl_Znode.shift g cap cur l0 i vb voff c2 arr tv x cx w hi hroom (by unfold maxLen at hcm; omega) hg hcs' hv hne h1 hcl' hx1 hxc).mono ?_
  rintro e w' ⟨arr2, rfl, rfl, hs2, ht2⟩
  have hgr : w.grownBy (w.drew.setRow g arr2) (some g) := let z := grown_row w.drew g arr2; ⟨z.os, z.tape, z.output, z.size, z.block⟩
  have ho : (w.drew.setRow g arr2).ownsRow w0.heap.size 32 5 (.slice (some ⟨g, 0, none⟩) (l0.length + 1) cap) (l0.take i ++ [x] ++ l0.drop i).length (inner.take (i * 5) ++ cx ++ inner.drop (i * 5)) := by
   rw [hpl]
   exact ⟨hil2, .inr ⟨g, cap, arr2, rfl, hbg, row_of w.drew g cur arr2 32 (0, 0) hg, hroom, hcm, by rw [hs2]; exact hcs', by rw [ht2, hti']⟩⟩
  refine ⟨_, rfl, R_flat k32 slices_Insert_impl_Znode_impl_Znode.kM (fun k hk => ?_) ho hput, pw_below_grown hB (some g) hB.size hgr (fun k hk => by injection hk with hk; omega), Kept.of_grown hgr (Kept.refl _ _) (fun k hk => .inl (by injection hk with hk; rw [← hk]; exact hPg))⟩
  have : g = k := by simpa [Value.ownBlock] using hk
  exact .inl (this ▸ hPg)
 have e : i = l0.length := by omega
 subst e
 rw [List.take_length, List.drop_length, List.append_nil]
 refine (slices_Insert_impl_Znode_impl_Znode.last u9000_ l0 A2 c2 l2 P0_ w0 w q3 q2 hB ho0 hC).mono ?_
 rintro e w' ⟨v1, rfl, ho, hb, hg⟩
 exact ⟨v1, rfl, ho, hb, Kept.of_grown hg (Kept.refl _ _) (fun k hk => .inl (hok k hk))⟩
end

end Go.Proofs.YtegggpipggniaaaDoor.Qa
