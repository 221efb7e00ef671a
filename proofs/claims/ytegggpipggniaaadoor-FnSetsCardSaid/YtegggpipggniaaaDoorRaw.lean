/- Rows of elements of several cells in memory: a copy within a row, an element put in. No program in sight. -/
import Derived.Test.YtegggpipggniaaaDoorWWords
import Derived.Test.YtegggpipggniaaaDoorWKept
import Derived.Test.YtegggpipggniaaaDoorWRepsOne
import Derived.Laws.CopyRow
import Derived.Lib.AppendZerosOnto
import Derived.Lib.Overlaps
import Derived.Lib.SliceRun
import Derived.Laws.Externs
import Derived.Shelf.RegionOpenPlain
namespace Go.Proofs.YtegggpipggniaaaDoor.Raw
open Go.RowKit Go.Lib Go.Proofs.YtegggpipggniaaaDoorW.PrintWords
variable {P : Program}
theorem run_copy_wide (w : World) (dT sT ty elem : TypeId) (g o dLen dCap : Nat) (a : Addr) (sLen sCap sz : Nat) (cur : Array Value) (t : TypeId) (cs : List Value)
    (hu : P.underlying dT = some (.slice elem)) (hs : (P.info? elem).map (·.size) = some sz)
    (hg : w.heap[g]? = some (.cells cur t (0, 0))) (hn : cs.length = Nat.min sLen dLen * sz)
    (hsrc : ∀ j v, cs[j]? = some v → w.cell? (a.add j) = some v) (hfit : o + cs.length ≤ cur.size) (h1 : ∀ v ∈ cs, v.oneCell' = true) :
    (Builtin.copy_ #[dT, sT] ty #[.slice (some ⟨g, o, none⟩) dLen dCap, .slice (some a) sLen sCap]).run P w =
      .ok (goInt (Nat.min sLen dLen)) (w.setRow g (cur.toList.take o ++ cs ++ cur.toList.drop (o + cs.length)).toArray) := by
  have hl := run_loadCells_list (P := P) w a cs hsrc
  have hst := run_storeCells_at P g o t cs 0 cur w hg (by simpa using hfit) h1
  cases hq : P.info? elem with
  | none => simp [hq] at hs
  | some i =>
    have hi : i.size = sz := by simpa [hq] using hs
    simp [Builtin.copy_, run_underlying hu, Builtin.lenOf, Builtin.firstCells, sizeOf, typeInfo, hq, hi, ← hn, hl, hst]
theorem row_of (w : World) (g : Nat) (cur arr : Array Value) (t : TypeId) (fr : Nat × Nat) (h : w.heap[g]? = some (.cells cur t fr)) : (w.setRow g arr).heap[g]? = some (.cells arr t fr) := setRow_heap w g cur arr t fr h
theorem other_of (w : World) (g k : Nat) (arr : Array Value) (h : k ≠ g) : (w.setRow g arr).heap[k]? = w.heap[k]? := by
  unfold World.setRow
  simp only [Array.getElem?_modify]
  rw [if_neg (fun e => h e.symm)]
theorem size_of (w : World) (g : Nat) (arr : Array Value) : (w.setRow g arr).heap.size = w.heap.size := by
  unfold World.setRow
  simp
theorem grown_row (w : World) (g : Nat) (arr : Array Value) : w.grownBy (w.setRow g arr) (some g) :=
  ⟨rfl, rfl, rfl, by rw [size_of]; exact Nat.le_refl _, fun k _ hk => other_of w g k arr (fun e => hk (by rw [e]))⟩
theorem cell_row (w : World) (g : Nat) (cur : Array Value) (t : TypeId) (fr : Nat × Nat) (h : w.heap[g]? = some (.cells cur t fr)) (j : Nat) : w.cell? ⟨g, j, none⟩ = cur[j]? := by
  simp [World.cell?, h]
/-! ### the walk's events -/
theorem ev_copy {w : World} {ops : Array Oper} {rest : List Oper} {o : Oper} {a : Act} {Q : Exit → Act → World → Prop} (hgd : o.guard = none) (d s : Operand) (t t' : TypeId)
    (ho : o.op = .call { callee := .builtin .copy, args := #[d, s], argTypes := #[t, t'] }) (v u : Value) (hd : a.eval d = v) (hs : a.eval s = u) {v' : Value} {w' : World}
    (hr : (Builtin.copy_ #[t, t'] o.type #[v, u]).run P w = .ok v' w') (h : wpList P ops Q rest (a.put o.dst v') w') : wpList P ops Q (o :: rest) a w := by
  refine wpList_plain hgd fun K hK => ?_
  unfold Oper.wp execOp
  simp only [ho, resolve, invoke, builtin, Sem.run_bind, Sem.run_pure, Result.andThen_ok, List.map_toArray, List.map_cons, List.map_nil, hd, hs, hr]
  exact hK _ _ h
theorem ev_copy_drawn {w : World} {ops : Array Oper} {o : Oper} {a : Act} {K : Act → World → Prop} {Q : Exit → Act → World → Prop} {E : Prop} (hg : o.guard = none) (d s : Operand) (t t' : TypeId)
    (ho : o.op = .call { callee := .builtin .copy, args := #[d, s], argTypes := #[t, t'] }) (v u : Value) (hd : a.eval d = v) (hs : a.eval s = u) {v' : Value} {w' : World}
    (hr : (Builtin.copy_ #[t, t'] o.type #[v, u]).run P w = .ok v' w') (h : K (a.put o.dst v') w') : if Region.wanted o (yielded ops a.tmps) = true then Oper.wp P o a w K Q else E := by
  have hw : Region.wanted o (yielded ops a.tmps) = true := by simp [Region.wanted, hg]
  rw [if_pos hw]
  unfold Oper.wp execOp
  simp only [ho, resolve, invoke, builtin, Sem.run_bind, Sem.run_pure, Result.andThen_ok, List.map_toArray, List.map_cons, List.map_nil, hd, hs, hr]
  exact h
theorem ev_append_drawn {w : World} {ops : Array Oper} {o : Oper} {a : Act} {K : Act → World → Prop} {Q : Exit → Act → World → Prop} {E : Prop} (hg : o.guard = none) (d s : Operand) (t t' : TypeId)
    (ho : o.op = .call { callee := .builtin .append, args := #[d, s], argTypes := #[t, t'] }) (v u : Value) (hd : a.eval d = v) (hs : a.eval s = u) {v' : Value} {w' : World}
    (hr : (Builtin.append_ #[t, t'] o.type #[v, u]).run P w = .ok v' w') (h : K (a.put o.dst v') w') : if Region.wanted o (yielded ops a.tmps) = true then Oper.wp P o a w K Q else E := by
  have hw : Region.wanted o (yielded ops a.tmps) = true := by simp [Region.wanted, hg]
  rw [if_pos hw]
  unfold Oper.wp execOp
  simp only [ho, resolve, invoke, builtin, Sem.run_bind, Sem.run_pure, Result.andThen_ok, List.map_toArray, List.map_cons, List.map_nil, hd, hs, hr]
  exact h
theorem ev_clear {w : World} {ops : Array Oper} {rest : List Oper} {o : Oper} {a : Act} {Q : Exit → Act → World → Prop} (hgd : o.guard = none) (s : Operand) (t : TypeId)
    (ho : o.op = .call { callee := .builtin .clear, args := #[s], argTypes := #[t] }) (v : Value) (hs : a.eval s = v) {v' : Value} {w' : World}
    (hr : (Builtin.clear_ #[t] o.type #[v]).run P w = .ok v' w') (h : wpList P ops Q rest (a.put o.dst v') w') : wpList P ops Q (o :: rest) a w := by
  refine wpList_plain hgd fun K hK => ?_
  unfold Oper.wp execOp
  simp only [ho, resolve, invoke, builtin, Sem.run_bind, Sem.run_pure, Result.andThen_ok, List.map_toArray, List.map_cons, List.map_nil, hs, hr]
  exact hK _ _ h
theorem run_clear_wide (w : World) (t e ty : TypeId) (z : Value) (zs : List Value) (ht : P.underlying t = some (.slice e)) (hv : ∀ w, (zeroValue e).run P w = .ok z w) (g o n c : Nat) (cur : Array Value) (tt : TypeId) (hzs : (Builtin.zeroCells z.cells (n + 1)).toList = zs)
    (hg : w.heap[g]? = some (.cells cur tt (0, 0))) (hfit : o + zs.length ≤ cur.size) (h1 : ∀ v ∈ zs, v.oneCell' = true) :
    (Builtin.clear_ #[t] ty #[.slice (some ⟨g, o, none⟩) (n + 1) c]).run P w = .ok (.tuple #[]) (w.setRow g (cur.toList.take o ++ zs ++ cur.toList.drop (o + zs.length)).toArray) := by
  have hst := run_storeCells_at P g o tt zs 0 cur w hg (by simpa using hfit) h1
  simp only [Nat.add_zero] at hst
  simp [Builtin.clear_, run_underlying ht, hv, hzs, hst]
/-! ### lists -/
theorem shift_list {α : Type} (L cx : List α) (a b s : Nat) (hab : a ≤ b) (hb : b + s ≤ L.length) (hx : cx.length = s) :
    let L1 := L.take (a + s) ++ (L.drop a).take (b - a) ++ L.drop (a + s + ((L.drop a).take (b - a)).length)
    L1.length = L.length ∧ (L1.take a ++ cx ++ L1.drop (a + cx.length)).length = L.length ∧ (L1.take a ++ cx ++ L1.drop (a + cx.length)).take (b + s) = L.take a ++ cx ++ (L.drop a).take (b - a) := by
  intro L1
  have l1 : ((L.drop a).take (b - a)).length = b - a := by rw [List.length_take, List.length_drop]; omega
  have l2 : (L.take (a + s)).length = a + s := by rw [List.length_take]; omega
  have e0 : L1.length = L.length := by
    show (L.take (a + s) ++ (L.drop a).take (b - a) ++ L.drop (a + s + ((L.drop a).take (b - a)).length)).length = _
    rw [List.length_append, List.length_append, l1, l2, List.length_drop]
    omega
  have e1 : L1.take a = L.take a := by
    show (L.take (a + s) ++ (L.drop a).take (b - a) ++ L.drop (a + s + ((L.drop a).take (b - a)).length)).take a = _
    rw [List.append_assoc, List.take_append_of_le_length (by omega), List.take_take, Nat.min_eq_left (by omega)]
  have e2 : L1.drop (a + cx.length) = (L.drop a).take (b - a) ++ L.drop (a + s + ((L.drop a).take (b - a)).length) := by
    show (L.take (a + s) ++ (L.drop a).take (b - a) ++ L.drop (a + s + ((L.drop a).take (b - a)).length)).drop (a + cx.length) = _
    rw [List.append_assoc, hx, List.drop_left' l2]
  refine ⟨e0, ?_, ?_⟩
  · rw [List.length_append, List.length_append, List.length_take, List.length_drop, e0, hx]
    omega
  · rw [e1, e2, ← List.append_assoc]
    refine List.take_left' ?_
    rw [List.length_append, List.length_append, l1, List.length_take, hx]
    omega
theorem grow_list {α : Type} (L0 pre cx tail : List α) (a s m : Nat) (hp : L0.take a = pre) (hx : cx.length = s) (ht : tail.length = m) (hl : a + s + m ≤ L0.length) :
    let L1 := L0.take a ++ cx ++ L0.drop (a + cx.length)
    L1.length = L0.length ∧ (L1.take (a + s) ++ tail ++ L1.drop (a + s + tail.length)).length = L0.length ∧ (L1.take (a + s) ++ tail ++ L1.drop (a + s + tail.length)).take (a + s + m) = pre ++ cx ++ tail := by
  intro L1
  have l0 : (L0.take a).length = a := by rw [List.length_take]; omega
  have e0 : L1.length = L0.length := by
    show (L0.take a ++ cx ++ L0.drop (a + cx.length)).length = _
    rw [List.length_append, List.length_append, l0, List.length_drop, hx]
    omega
  have l1 : (L1.take (a + s)).length = a + s := by rw [List.length_take]; omega
  have e1 : L1.take (a + s) = pre ++ cx := by
    show (L0.take a ++ cx ++ L0.drop (a + cx.length)).take (a + s) = _
    rw [hp] at l0 ⊢
    exact List.take_left' (by rw [List.length_append]; omega)
  refine ⟨e0, ?_, ?_⟩
  · rw [List.length_append, List.length_append, l1, List.length_drop, e0, ht]
    omega
  · rw [List.take_left' (by rw [List.length_append, l1, ht]), e1]
theorem reps_one_ {α : Type} {R : α → List Value → Prop} {x : α} {cx : List Value} (h : R x cx) : Reps R cx.length [x] cx := by
  refine ⟨by simp, fun j p hj => ?_⟩
  cases j with
  | zero =>
    have : p = x := by simpa using hj.symm
    subst this
    rw [Nat.zero_mul, List.drop_zero, List.take_length]
    exact h
  | succ j => simp at hj
/-- A row of elements without rows inside: told by its cells alone. -/
theorem R_flat {α : Type} (d : Kd α) (hKM : ∀ (w w1 : World) (base : Nat) (ok : Nat → Prop) (x : α) (cs : List Value), d.K w x cs → d.M w1 base ok x cs) {e : Nat} {w w1 : World} {base : Nat} {ok : Nat → Prop} {v : Value} {xs : List α} {inner : List Value} (hv : ∀ k, v.ownBlock = some k → ok k) (ho : w1.ownsRow base e d.sz v xs.length inner) (hr : Reps (d.K w) d.sz xs inner) : d.R e w1 base ok v xs :=
  ⟨hv, inner, ho, hr.imp_ (fun _ _ h => hKM _ _ _ _ _ _ h)⟩
theorem reps_K {α : Type} {d : Kd α} {w : World} {base : Nat} {ok : Nat → Prop} {xs : List α} {inner : List Value} (h : Reps (d.M w base ok) d.sz xs inner) : Reps (d.K w) d.sz xs inner := h.imp_ (fun _ _ h => d.K_of_M h)
theorem reps_put {α : Type} {d : Kd α} {w : World} {xs : List α} {inner : List Value} {x : α} {cx : List Value} (h : Reps (d.K w) d.sz xs inner) (hx : d.K w x cx) (i : Nat) (hi : i ≤ xs.length) : Reps (d.K w) d.sz (xs.take i ++ [x] ++ xs.drop i) (inner.take (i * d.sz) ++ cx ++ inner.drop (i * d.sz)) := by
  have h1 : Reps (d.K w) d.sz [x] cx := by
    have := reps_one_ hx
    rwa [d.K_len hx] at this
  exact Kd.reps_append (Kd.reps_append (Kd.reps_take h hi) h1) (Kd.reps_drop h)
theorem own_plain {α : Type} {d : Kd α} {e : Nat} {w : World} {base : Nat} {ok : Nat → Prop} {A : Option Addr} {n c : Nat} {xs : List α} (h : d.R e w base ok (.slice A n c) xs) : ∀ ad, A = some ad → ∃ (g o : Nat) (arr : Array Value) (t : TypeId), ad = ⟨g, o, none⟩ ∧ w.heap[g]? = some (.cells arr t (0, 0)) := by
  intro ad he
  subst he
  obtain ⟨_, inner, ho, _⟩ := h
  rcases ho.2 with ⟨he, _⟩ | ⟨g, cap, cur, he, _, hg, _⟩
  · cases he
  · injection he with he
    injection he with he
    exact ⟨g, 0, cur, e, he, hg⟩
theorem gate_clear {w : World} {ops : Array Oper} {rest : List Oper} {o : Oper} {a : Act} {Q : Exit → Act → World → Prop} {s : Operand} {t : TypeId} (_ho : o.op = .call { callee := .builtin .clear, args := #[s], argTypes := #[t] }) (h : wpList P ops Q (o :: rest) a w) : wpList P ops Q (o :: rest) a w := h
theorem zeros_one {z : Array Value} (h1 : ∀ v ∈ z.toList, v.oneCell' = true) (h0 : 0 < z.size) (m : Nat) : ∀ v ∈ (Builtin.zeroCells z m).toList, v.oneCell' = true := by
  intro v hv
  unfold Builtin.zeroCells at hv
  rw [Array.mem_toList_iff, Array.mem_map] at hv
  obtain ⟨i, _, rfl⟩ := hv
  have hi : i % z.size < z.size := Nat.mod_lt _ h0
  rw [getElem!_pos z (i % z.size) hi]
  exact h1 _ (Array.mem_toList_iff.2 (Array.getElem_mem hi))
/-- The rest of an own row is cleared: the front part stays. -/
theorem clear_own {α : Type} {d : Kd α} (hKM : ∀ (w w1 : World) (base : Nat) (ok : Nat → Prop) (x : α) (cs : List Value), d.K w x cs → d.M w1 base ok x cs) {t e : TypeId} {z : Value} {W : World} {base : Nat} {ok : Nat → Prop} {A : Option Addr} {n c : Nat} {xs : List α}
    (HO : d.R e W base ok (.slice A n c) xs) (j : Nat) (hj : j < n) (ht : P.underlying t = some (.slice e)) (hv : ∀ w, (zeroValue e).run P w = .ok z w) (hz : z.cells.size = d.sz) (h1 : ∀ v ∈ z.cells.toList, v.oneCell' = true) (hs0 : 0 < d.sz) :
    ∃ (g : Nat) (W1 : World), A = some ⟨g, 0, none⟩ ∧ n ≤ c ∧ (∀ ty, (Builtin.clear_ #[t] ty #[.slice (some ⟨g, j * d.sz, none⟩) (n - j) (c - j)]).run P W = .ok (.tuple #[]) W1) ∧ d.R e W1 base ok (.slice A j c) (xs.take j) ∧ W.grownBy W1 (some g) ∧ ok g ∧ base ≤ g := by
  obtain ⟨hok, inner, hown, hrp⟩ := HO
  have hrK := reps_K hrp
  rcases hown with ⟨hil, ⟨hne, hn⟩ | ⟨g, cap, cur, heq, hbg, hg, hnc, hcm, hcs, hti⟩⟩
  · injection hne with _ hn2 _
    omega
  · injection heq with hA hn2 hc2
    subst hA hn2 hc2
    have hog : ok g := hok g rfl
    obtain ⟨m, hm⟩ : ∃ m, xs.length - j = m + 1 := ⟨xs.length - j - 1, by omega⟩
    obtain ⟨zs, hzs⟩ : ∃ zs, zs = (Builtin.zeroCells z.cells (m + 1)).toList := ⟨_, rfl⟩
    have hzl : zs.length = (m + 1) * d.sz := by rw [hzs, Array.length_toList, size_zeroCells, hz]
    have hjs : j * d.sz + (m + 1) * d.sz = xs.length * d.sz := by rw [← Nat.add_mul]; congr 1; omega
    have hns : xs.length * d.sz ≤ cur.size := by rw [hcs]; exact Nat.mul_le_mul_right _ hnc
    have hz1 : ∀ v ∈ zs, v.oneCell' = true := by rw [hzs]; exact zeros_one h1 (by omega) (m + 1)
    have hrun : ∀ ty, (Builtin.clear_ #[t] ty #[.slice (some ⟨g, j * d.sz, none⟩) (xs.length - j) (c - j)]).run P W = .ok (.tuple #[]) (W.setRow g (cur.toList.take (j * d.sz) ++ zs ++ cur.toList.drop (j * d.sz + zs.length)).toArray) := fun ty => by
      rw [hm]
      exact run_clear_wide W t e ty z zs ht hv g (j * d.sz) m (c - j) cur e hzs.symm hg (by rw [hzl]; omega) hz1
    refine ⟨g, _, rfl, hnc, hrun, ?_, grown_row W g _, hog, hbg⟩
    have hl : cur.toList.length = cur.size := Array.length_toList
    have hsz : (cur.toList.take (j * d.sz) ++ zs ++ cur.toList.drop (j * d.sz + zs.length)).toArray.size = cur.size := by
      rw [List.size_toArray, List.length_append, List.length_append, List.length_take, List.length_drop, hzl, hl]
      omega
    have htk : (cur.toList.take (j * d.sz) ++ zs ++ cur.toList.drop (j * d.sz + zs.length)).take (j * d.sz) = inner.take (j * d.sz) := by
      have hjn : j * d.sz ≤ xs.length * d.sz := Nat.mul_le_mul_right _ (Nat.le_of_lt hj)
      rw [List.append_assoc, List.take_append_of_le_length (by rw [List.length_take, hl]; omega), List.take_take, Nat.min_self, ← hti, List.take_take, Nat.min_eq_left hjn]
    have hxl : (xs.take j).length = j := by rw [List.length_take]; have := hrK.1; omega
    refine R_flat d hKM hok (inner := inner.take (j * d.sz)) ⟨?_, .inr ⟨g, c, _, by rw [hxl], hbg, row_of W g cur _ e (0, 0) hg, ?_, hcm, ?_, ?_⟩⟩ (Kd.reps_take hrK (Nat.le_of_lt hj))
    · rw [hxl, List.length_take, hil]
      exact Nat.min_eq_left (Nat.mul_le_mul_right _ (Nat.le_of_lt hj))
    · rw [hxl]; omega
    · rw [hsz]; exact hcs
    · rw [hxl]; exact htk
end Go.Proofs.YtegggpipggniaaaDoor.Raw
