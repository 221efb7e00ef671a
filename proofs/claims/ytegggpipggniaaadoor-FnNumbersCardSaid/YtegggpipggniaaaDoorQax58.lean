import Derived.Test.YtegggpipggniaaaDoorQax0
namespace Go.Proofs.YtegggpipggniaaaDoor.Qa
open Go.RowKit Go.Proofs.YtegggpipggniaaaDoorW.PrintWords Go.Proofs.YtegggpipggniaaaDoorW.PrintLast Go.Proofs.YtegggpipggniaaaDoorW.PrintMore
attribute [local go_sem] max2_int min2_int max_two min_two max_three min_three max_four min_four
set_option linter.unusedVariables false
set_option linter.unusedSimpArgs false
set_option maxHeartbeats 8000000
set_option maxRecDepth 100000

/-! ### slices_Delete_impl_Znode_impl_Znode: function 40 -/
section
open Go.Lib Go.Proofs.YtegggpipggniaaaDoor.Raw
def slices_Delete_impl_Znode_impl_Znode.f (l0 : List S32) (a1 : Int) (a2 : Int) : Option (List S32) := if 0 ≤ a1 then (if a1 < (l0.length : Int) then (if a2 = a1 + 1 then (if l0.length < 1048576000 then (some (l0.take a1.toNat ++ l0.drop (a1.toNat + 1))) else none) else none) else none) else none
theorem slices_Delete_impl_Znode_impl_Znode.kM (w w1 : World) (base : Nat) (ok : Nat → Prop) (x : S32) (cs : List Value) (h : k32.K w x cs) : k32.M w1 base ok x cs := h
theorem slices_Delete_impl_Znode_impl_Znode.raw (g cap : Nat) (cur : Array Value) (n : Nat) (i : Nat) (w : World) (hi : i < n) (hnc : n ≤ cap) (hcm : cap ≤ 9223372036854775807)
  (hg : w.heap[g]? = some (.cells cur 32 (0, 0))) (hcs : cur.size = cap * 5) (h1 : ∀ v ∈ cur.toList.take (n * 5), v.oneCell' = true) :
  Calls Tryd.prog 40 #[.slice (some ⟨g, 0, none⟩) n cap, .int .i64 i, .int .i64 ((i : Int) + 1)] w fun e w' =>
   ∃ arr2 : Array Value, e = .returned (.slice (some ⟨g, 0, none⟩) (n - 1) cap) ∧ w' = w.drew.setRow g arr2 ∧ arr2.size = cur.size ∧ arr2.toList.take ((n - 1) * 5) = (cur.toList.take (n * 5)).take (i * 5) ++ (cur.toList.take (n * 5)).drop ((i + 1) * 5) := by
 obtain ⟨i0, hi0, hzz⟩ := Option.map_eq_some_iff.1 info32
 simp only [Prod.mk.injEq] at hzz
 obtain ⟨hz0, hzs, hzb⟩ := hzz
 have hLl : cur.toList.length = cap * 5 := by rw [Array.length_toList]; exact hcs
 obtain ⟨TAIL, hTAIL⟩ : ∃ TAIL, TAIL = (cur.toList.take (n * 5)).drop ((i + 1) * 5) := ⟨_, rfl⟩
 have hTl : TAIL.length = (n - (i + 1)) * 5 := by rw [hTAIL, List.length_drop, List.length_take, hLl]; omega
 have ho1 : ∀ v ∈ TAIL, v.oneCell' = true := fun v hv => h1 v (by rw [hTAIL] at hv; exact List.mem_of_mem_drop hv)
 have hTc : ∀ j v, TAIL[j]? = some v → w.cell? ⟨g, (i + 1) * 5 + j, none⟩ = some v := fun j v hj => by
  rw [hTAIL, List.getElem?_drop, List.getElem?_take] at hj
  split at hj
  ·
   rw [cell_row w g cur 32 (0, 0) hg, ← Array.getElem?_toList]
   exact hj
  ·
   cases hj
 obtain ⟨L1, hL1⟩ : ∃ L1, L1 = cur.toList.take (i * 5) ++ TAIL ++ cur.toList.drop (i * 5 + TAIL.length) := ⟨_, rfl⟩
 have hL1l : L1.length = cap * 5 := by rw [hL1, List.length_append, List.length_append, List.length_take, List.length_drop, hTl, hLl]; omega
 have hL1t : L1.take ((n - 1) * 5) = cur.toList.take (i * 5) ++ TAIL := by
  rw [hL1]
  exact List.take_left' (by rw [List.length_append, List.length_take, hTl, hLl]; omega)
 obtain ⟨W1, hW1⟩ : ∃ W1, W1 = w.drew.setRow g L1.toArray := ⟨_, rfl⟩
 have hst0 := run_storeCells_at Tryd.prog g (i * 5) 32 TAIL 0 cur w.drew hg (by rw [hTl, hcs]; omega) ho1
 have hst : (storeCells ⟨g, i * 5, none⟩ TAIL).run Tryd.prog w.drew = .ok () W1 := by
  rw [hW1, hL1]
  exact hst0
 clear hst0
 have hlen : i + (n - (i + 1)) = n - 1 := by omega
 have hroom : n - 1 ≤ cap := by omega
 have hg1 : W1.heap[g]? = some (.cells L1.toArray 32 (0, 0)) := by rw [hW1]; exact row_of w.drew g cur _ 32 (0, 0) hg
 obtain ⟨ZS, hZS⟩ : ∃ ZS : List Value, ZS = (Builtin.zeroCells ((.agg #[(.string ⟨#[]⟩), (.int .i64 0), (.int .i64 0), (.int .i64 0), (.int .i64 0)]) : Value).cells (0 + 1)).toList := ⟨_, rfl⟩
 have hZl : ZS.length = 5 := by rw [hZS]; kernel_rfl
 have hZa : ZS.all (fun v => v.oneCell') = true := by rw [hZS]; kernel_rfl
 have hZ1 : ∀ v ∈ ZS, v.oneCell' = true := List.all_eq_true.1 hZa
 obtain ⟨L2, hL2⟩ : ∃ L2, L2 = L1.take ((n - 1) * 5) ++ ZS ++ L1.drop ((n - 1) * 5 + ZS.length) := ⟨_, rfl⟩
 have hL2l : L2.length = cap * 5 := by rw [hL2, List.length_append, List.length_append, List.length_take, List.length_drop, hZl, hL1l]; omega
 have hL2t : L2.take ((n - 1) * 5) = L1.take ((n - 1) * 5) := by
  rw [hL2, List.append_assoc]
  exact List.take_left' (by rw [List.length_take, hL1l]; omega)
 have hcl : ∀ ty c, (Builtin.clear_ #[24] ty #[.slice (some ⟨g, (n - 1) * 5, none⟩) 1 c]).run Tryd.prog W1 = .ok (.tuple #[]) (W1.setRow g L2.toArray) := fun ty c => by
  have h := run_clear_wide (P := Tryd.prog) W1 24 32 ty _ ZS Tryd.underlying24 Tryd.zeroValue32 g ((n - 1) * 5) 0 c L1.toArray 32 hZS.symm hg1 (by rw [hZl, List.size_toArray, hL1l]; omega) hZ1
  rw [hL2]
  exact h
 have hz2 : ¬ ((i : Int) = (i : Int) + 1) := by omega
 have hw1 : IntKind.i64.wrap ((i : Int) + 1) = (i : Int) + 1 := by rw [IntKind.wrap_i64]; omega
 have hb1 : (0 : Int) ≤ (i : Int) + 1 := by omega
 have hin : i ≤ n := by omega
 have hin1 : (i : Int) + 1 ≤ (n : Int) := by omega
 have htn : ((i : Int) + 1).toNat = i + 1 := by omega
 have hci : ¬ (cap = i) := by omega
 have hnn : n - (n - 1) = 1 := by omega
 have hn1 : n - 1 ≤ n := by omega
 have hcn : ¬ (cap = n - 1) := by omega
 have AW1 := aa hW1
 have AL1 := aa hL1
 have AL2 := aa hL2
 have AT := aa hTAIL
 have AZ := aa hZS
 clear hW1 hL1 hL2 hTAIL hZS
 have mixed : Tryd.prog.follows .mixedOrders = true := by kernel_rfl
 clear hZa
 have hic : i ≤ cap := by omega
 have hic2 : (i : Int) ≤ (cap : Int) := by omega
 by_cases hc1 : cap = i + 1
 ·
  have e0 : n - (i + 1) = 0 := by omega
  have hld : (loadCellsFrom ⟨g, 0, none⟩ 0 ((n - (i + 1)) * 5) #[]).run Tryd.prog w.drew = .ok TAIL.toArray w.drew := by
   have hT0 : TAIL = [] := List.eq_nil_of_length_eq_zero (by rw [hTl, e0])
   rw [e0, hT0]
   exact run_loadCells_list (P := Tryd.prog) w.drew ⟨g, 0, none⟩ [] (by simp)
  have hc1' := eq_true hc1
  clear hc1 e0
  go_enter Tryd.func40, Tryd.ntmps40
  go_wp2
  go_region_law_o (fail)
  go_wp2_with (at_builtin; refine ev_clear rfl _ 24 rfl _ rfl (hcl _ _) ?_)
  go_ret
  refine ⟨L2.toArray, rfl, by rw [AW1.out, setRow_setRow], ?_, ?_⟩
  ·
   rw [List.size_toArray, hL2l, hcs]
  show List.take ((n - 1) * 5) L2 = _
  rw [hL2t, hL1t, AT.out, List.take_take, Nat.min_eq_left (by omega)]
 have hld : (loadCellsFrom ⟨g, (i + 1) * 5, none⟩ 0 ((n - (i + 1)) * 5) #[]).run Tryd.prog w.drew = .ok TAIL.toArray w.drew := by
  rw [← hTl]
  exact run_loadCells_list (P := Tryd.prog) w.drew ⟨g, (i + 1) * 5, none⟩ TAIL (fun j v hj => by rw [Addr.add_lit]; exact hTc j v hj)
 go_enter Tryd.func40, Tryd.ntmps40
 go_wp2
 go_region_law_o (fail)
 go_wp2_with (at_builtin; refine ev_clear rfl _ 24 rfl _ rfl (hcl _ _) ?_)
 go_ret
 refine ⟨L2.toArray, rfl, by rw [AW1.out, setRow_setRow], ?_, ?_⟩
 ·
  rw [List.size_toArray, hL2l, hcs]
 show List.take ((n - 1) * 5) L2 = _
 rw [hL2t, hL1t, AT.out, List.take_take, Nat.min_eq_left (by omega)]
theorem slices_Delete_impl_Znode_impl_Znode.calls (P0_ : Nat → Prop) (u9000_ : Value) (l0 : List S32) (a1 : Int) (a2 : Int) (r : List S32) (w0 w : World) (hB : Below w0.heap.size w0 w) (ho0 : Kd.R k32 32 w w0.heap.size P0_ u9000_ l0) (h : slices_Delete_impl_Znode_impl_Znode.f l0 a1 a2 = some r) :
  Calls Tryd.prog 40 #[u9000_, .int .i64 a1, .int .i64 a2] w fun e w' => ∃ v0_ : Value, e = .returned (v0_) ∧ Kd.R k32 32 w' w0.heap.size (fun k_ => (P0_ k_ ∨ w.heap.size ≤ k_)) v0_ r ∧ Below w0.heap.size w0 w' ∧ Kept w w' (fun k_ => P0_ k_) := by
 unfold slices_Delete_impl_Znode_impl_Znode.f at h
 have q0 : 0 ≤ a1 := Decidable.byContradiction fun c => by rw [if_neg c] at h; cases h
 rw [if_pos q0] at h
 have q1 : a1 < (l0.length : Int) := Decidable.byContradiction fun c => by rw [if_neg c] at h; cases h
 rw [if_pos q1] at h
 have q2 : a2 = a1 + 1 := Decidable.byContradiction fun c => by rw [if_neg c] at h; cases h
 rw [if_pos q2] at h
 have q3 : l0.length < 1048576000 := Decidable.byContradiction fun c => by rw [if_neg c] at h; cases h
 rw [if_pos q3] at h
 obtain rfl := Option.some.inj h
 clear h
 subst q2
 obtain ⟨i, rfl⟩ := Int.eq_ofNat_of_zero_le q0
 rw [Int.toNat_natCast]
 have hi : i < l0.length := by omega
 have hok : ∀ k, u9000_.ownBlock = some k → P0_ k := ho0.1
 obtain ⟨h0, inner, hown, hrp⟩ := ho0
 have hrK := reps_K hrp
 rcases hown with ⟨hil, ⟨rfl, hn⟩ | ⟨g, cap, cur, rfl, hbg, hg, hnc, hcm, hcs, hti⟩⟩
 ·
  omega
 have hcs' : cur.size = cap * 5 := hcs
 have hti' : cur.toList.take (l0.length * 5) = inner := hti
 have hil' : inner.length = l0.length * 5 := hil
 have hPg : P0_ g := hok g rfl
 have h1 : ∀ v ∈ cur.toList.take (l0.length * 5), v.oneCell' = true := by
  rw [hti']
  intro v hv
  obtain ⟨j, hj, rfl⟩ := List.getElem_of_mem hv
  have hjl : j / 5 < l0.length := by omega
  have hK := k32.K_one (hrK.2 (j / 5) _ (List.getElem?_eq_getElem hjl))
  refine hK _ (List.mem_iff_getElem?.2 ⟨j % 5, ?_⟩)
  have e5 : k32.sz = 5 := rfl
  rw [e5, List.getElem?_take, if_pos (Nat.mod_lt _ (by omega)), List.getElem?_drop, show j / 5 * 5 + j % 5 = j by omega]
  exact List.getElem?_eq_getElem hj
 have hput : Reps (k32.K w) k32.sz (l0.take i ++ l0.drop (i + 1)) (inner.take (i * 5) ++ inner.drop ((i + 1) * 5)) := Kd.reps_append (Kd.reps_take hrK (Nat.le_of_lt hi)) (Kd.reps_drop hrK)
 have hpl : (l0.take i ++ l0.drop (i + 1)).length = l0.length - 1 := by
  rw [List.length_append, List.length_take, List.length_drop]
  omega
 have hil2 : (inner.take (i * 5) ++ inner.drop ((i + 1) * 5)).length = (l0.length - 1) * 5 := by
  rw [List.length_append, List.length_take, List.length_drop, hil']
  omega
 refine (slices_Delete_impl_Znode_impl_Znode.raw g cap cur l0.length i w hi hnc (by unfold maxLen at hcm; omega) hg hcs' h1).mono ?_
 rintro e w' ⟨arr2, rfl, rfl, hs2, ht2⟩
 have hgr : w.grownBy (w.drew.setRow g arr2) (some g) := let z := grown_row w.drew g arr2; ⟨z.os, z.tape, z.output, z.size, z.block⟩
 have ho : (w.drew.setRow g arr2).ownsRow w0.heap.size 32 5 (.slice (some ⟨g, 0, none⟩) (l0.length - 1) cap) (l0.take i ++ l0.drop (i + 1)).length (inner.take (i * 5) ++ inner.drop ((i + 1) * 5)) := by
  rw [hpl]
  exact ⟨hil2, .inr ⟨g, cap, arr2, rfl, hbg, row_of w.drew g cur arr2 32 (0, 0) hg, by omega, hcm, by rw [hs2]; exact hcs', by rw [ht2, hti']⟩⟩
 refine ⟨_, rfl, R_flat k32 slices_Delete_impl_Znode_impl_Znode.kM (fun k hk => ?_) ho hput, pw_below_grown hB (some g) hB.size hgr (fun k hk => by injection hk with hk; omega), Kept.of_grown hgr (Kept.refl _ _) (fun k hk => .inl (by injection hk with hk; rw [← hk]; exact hPg))⟩
 have : g = k := by simpa [Value.ownBlock] using hk
 exact .inl (this ▸ hPg)
end

end Go.Proofs.YtegggpipggniaaaDoor.Qa
