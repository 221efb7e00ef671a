/- For every input the law FnExactSetZ returns true, and every argument reads behind the call as it read before: no condition. Here: the last part, the theorem in it. -/
import Derived.Test.YtdemicncljgccaaDoorQax38
import Derived.Test.YtdemicncljgccaaDoorZFnExactSetZa
import Derived.Test.YtdemicncljgccaaDoorQax43
import Derived.Test.YtdemicncljgccaaDoorQax46
import Derived.Test.YtdemicncljgccaaDoorQax48
import Derived.Test.YtdemicncljgccaaDoorZFnExactSetZb
import Derived.Test.YtdemicncljgccaaDoorQax61
import Derived.Test.YtdemicncljgccaaDoorQax62
import Derived.Test.YtdemicncljgccaaDoorQax9
import Derived.Test.YtdemicncljgccaaDoorCards
import Derived.Test.YtdemicncljgccaaDoorTie
import Derived.WalkKit
import Derived.ProofKit
import Derived.OpenShut
import Derived.ShutString
import Derived.ChangeOld
import Derived.Below
import Derived.SizedLaws
import Derived.Lay
import Derived.LaidOnce
import Derived.SevenTiedAt
/- Answers that hold nodes, and answers that hold texts: compared with themselves, marked, held. -/
namespace Go.Proofs.YtdemicncljgccaaDoor.Pure
open Go.RowKit Go.Proofs.YtdemicncljgccaaDoor.Qa Go.Proofs.YtdemicncljgccaaDoorW.PrintWords Go.Proofs.YtdemicncljgccaaDoorW.PrintLast Go.Proofs.YtdemicncljgccaaDoor.Aid
theorem eqZR (c : Int) (p : ByteArray) (l : List ZZ) (hl : l.length ≤ 4611686018427387904) : Ev (fun k => laws_eqZResult.f k c p l c p l) true := by
  unfold laws_eqZResult.f
  exact ev_cong (fun k => if_pos rfl) (ev_cong (fun k => if_pos rfl) (ev_call (laws_eqZnodeS.ev l hl) (ev_is fun k => if_pos rfl)))
theorem markZR (c : Int) (p : ByteArray) (l : List ZZ) (hl : l.length ≤ 1048576000) : Ev (fun k => laws_markZResult.f k c p l 1) (1 + 5 * l.length, rowZnodeS l.length 1) := by
  unfold laws_markZResult.f
  exact ev_call (laws_markZnodeS.ev l 1 hl (by omega) (by omega)) (Ev.now _)
theorem heldZR (c : Int) (p : ByteArray) (n : Nat) (hl : n ≤ 1048576000) : Ev (fun k => laws_heldZResult.f k c p (rowZnodeS n 1) 1) (1 + 5 * (n : Int)) := by
  unfold laws_heldZResult.f
  exact ev_call (laws_heldZnodeS.ev n 1 hl (by omega) (by omega)) (ev_is fun k => if_neg (by omega))
/-- The code of a tree and a path. -/
noncomputable def askT (l : List ZZ) (q : ByteArray) : Int := if treeR l = 0 then faultR q else treeR l
theorem askT_spec (l : List ZZ) (q : ByteArray) : Ev (fun k => spec_l2Asked.f k l q) (askT l q) := by
  unfold spec_l2Asked.f askT
  refine ev_call (treeR_spec l) ?_
  by_cases h : treeR l = 0
  · rw [if_pos h]
    exact ev_cong (fun k => if_pos h) (ev_call (fault_spec q) (Ev.now _))
  · rw [if_neg h]
    exact ev_is fun k => if_neg h
theorem askT_impl (l : List ZZ) (q : ByteArray) : Ev (fun k => impl_zCode.f k l q) (askT l q) := by
  unfold impl_zCode.f askT
  refine ev_call (treeR_impl l) ?_
  by_cases h : treeR l = 0
  · rw [if_pos h]
    exact ev_cong (fun k => if_pos h) (ev_call (fault_impl q) (Ev.now _))
  · rw [if_neg h]
    exact ev_is fun k => if_neg h
theorem askT_ok {l : List ZZ} {q : ByteArray} (h : askT l q = 0) : RightT l ∧ faultR q = 0 ∧ treeR l = 0 := by
  unfold askT at h
  by_cases h1 : treeR l = 0
  · rw [if_pos h1] at h
    exact ⟨right_of h1, h, h1⟩
  · rw [if_neg h1] at h; exact absurd h h1
abbrev ZR := Int × ByteArray × List ZZ
def badZ (c : Int) : ZR := (c, (⟨#[]⟩ : ByteArray), [])
end Go.Proofs.YtdemicncljgccaaDoor.Pure

/- A list of nodes copied: by the program and by the reference the list itself. -/
namespace Go.Proofs.YtdemicncljgccaaDoor.Pure
open Go.RowKit Go.Proofs.YtdemicncljgccaaDoor.Qa Go.Proofs.YtdemicncljgccaaDoorW.PrintWords Go.Proofs.YtdemicncljgccaaDoorW.PrintLast Go.Proofs.YtdemicncljgccaaDoor.Aid
theorem copy_spec (l : List ZZ) (hl : l.length ≤ 1048576000) : spec_l2Copy.f l = some l := by
  unfold spec_l2Copy.f
  simp only [Option.bind_some, List.nil_append, List.length_nil, Nat.zero_add]
  rw [if_pos (by omega)]
end Go.Proofs.YtdemicncljgccaaDoor.Pure

/- A list of nodes copied: by the program and by the reference the list itself. -/
namespace Go.Proofs.YtdemicncljgccaaDoor.Pure
open Go.RowKit Go.Proofs.YtdemicncljgccaaDoor.Qa Go.Proofs.YtdemicncljgccaaDoorW.PrintWords Go.Proofs.YtdemicncljgccaaDoorW.PrintLast Go.Proofs.YtdemicncljgccaaDoor.Aid
theorem clone_impl (l : List ZZ) (hl : l.length ≤ 1048576000) : slices_Clone_impl_Znode_impl_Znode.f l = some l := by
  unfold slices_Clone_impl_Znode_impl_Znode.f
  simp only [Option.bind_some, List.nil_append, List.length_nil, Nat.zero_add]
  rw [if_pos (by omega)]
end Go.Proofs.YtdemicncljgccaaDoor.Pure

/- What is set: by the program and by the reference the same. -/
namespace Go.Proofs.YtdemicncljgccaaDoor.Pure
open Go.RowKit Go.Proofs.YtdemicncljgccaaDoor.Qa Go.Proofs.YtdemicncljgccaaDoorW.PrintWords Go.Proofs.YtdemicncljgccaaDoorW.PrintLast Go.Proofs.YtdemicncljgccaaDoor.Aid
def putD (l : List ZZ) (i : Int) (d : Int) : List ZZ := l.set i.toNat (⟨(rd_T47 l i).f0, d, (rd_T47 l i).f2, (rd_T47 l i).f3, (rd_T47 l i).f4⟩ : ZZ)
def putV (l : List ZZ) (i : Int) : List ZZ := l.set i.toNat (⟨(rd_T47 l i).f0, (rd_T47 l i).f1, wrap64 (((rd_T47 l i).f2) + 1), (rd_T47 l i).f3, (rd_T47 l i).f4⟩ : ZZ)
def setAt (l : List ZZ) (p : Nat) (d v : Int) : ZR :=
  if v = -1 ∨ v = (rd_T47 l (p : Int)).f2 then (if (rd_T47 l (p : Int)).f2 = 999 then badZ 2 else (0, (⟨#[]⟩ : ByteArray), putV (putD l (p : Int) d) (p : Int))) else badZ 7
noncomputable def setIn (l : List ZZ) (q : ByteArray) (d v : Int) : ZR :=
  if 0 ≤ d ∧ d ≤ 9999 then (if hereK pk l q.data.toList = true then setAt l (posK pk l q.data.toList) d v else badZ 4) else badZ 3
noncomputable def setR (l : List ZZ) (q : ByteArray) (d v : Int) : ZR := if askT l q = 0 then setIn l q d v else badZ (askT l q)
theorem ver_le {l : List ZZ} (hg : ∀ z ∈ l, zOwn z = 0) {p : Nat} (hp : p < l.length) : 0 ≤ (rd_T47 l (p : Int)).f2 ∧ (rd_T47 l (p : Int)).f2 ≤ 999 := by
  rw [rd_T47_at hp]
  have := (zOwn_ok (hg _ (List.getElem_mem hp))).2
  unfold zIn at this
  simp only [Bool.and_eq_true, decide_eq_true_eq] at this
  exact this.2.1
theorem set_j0 {l : List ZZ} (hg : ∀ z ∈ l, zOwn z = 0) (hl : l.length ≤ 20) {p : Nat} (hp : p < l.length) (d v : Int) (b : Bool) (hb : b = true ↔ ¬ (v = -1 ∨ v = (rd_T47 l (p : Int)).f2)) : Ev (fun k => spec_l2Set.j0 k l d (p : Int) b) (setAt l p d v) := by
  have hv := ver_le hg hp
  unfold setAt
  cases b with
  | true =>
    rw [if_neg (hb.1 rfl)]
    exact ev_done fun k => by simp only [spec_l2Set.j0]; rw [if_pos trivial]; rfl
  | false =>
    have hn : v = -1 ∨ v = (rd_T47 l (p : Int)).f2 := Decidable.byContradiction fun c => by have := hb.2 c; cases this
    rw [if_pos hn]
    refine ev_done fun k => ?_
    simp only [spec_l2Set.j0]
    rw [if_neg (by simp), if_pos (by omega), if_pos (by omega), copy_spec l (by omega)]
    by_cases c : (rd_T47 l (p : Int)).f2 = 999
    · rw [if_pos (by omega), if_pos c]; rfl
    · rw [if_neg (by omega), if_neg c, Option.bind_some, if_pos (by omega)]; rfl
theorem set_in_spec {l : List ZZ} (hg : ∀ z ∈ l, zOwn z = 0) (hl : l.length ≤ 20) (hr : Rises pk l) (q : ByteArray) (d v : Int) : Ev (fun k => spec_l2Set.f k l q d v) (setIn l q d v) := by
  unfold spec_l2Set.f spec_l2Data.f setIn
  rw [spec_l1In_is]
  simp only [Option.bind_some]
  by_cases h1 : 0 ≤ d ∧ d ≤ 9999
  · rw [if_pos h1]
    refine ev_cong (fun k => if_pos (decide_eq_true h1)) (ev_call (at_is hr (by omega) q) ?_)
    cases c : hereK pk l q.data.toList with
    | false =>
      rw [if_neg (by simp), if_neg (by simp)]
      exact ev_is fun k => if_pos (by omega)
    | true =>
      have hp := hereK_lt c
      rw [if_pos rfl, if_pos rfl]
      generalize posK pk l q.data.toList = p at hp
      refine ev_cong (fun k => if_neg (by omega)) ?_
      by_cases h2 : v = -1
      · exact ev_cong (fun k => if_pos h2) (set_j0 hg hl hp d v false ⟨fun h => by simp at h, fun h => absurd (.inl h2) h⟩)
      · refine ev_cong (fun k => (if_neg h2).trans ((if_pos (by omega)).trans (if_pos (by omega)))) (set_j0 hg hl hp d v _ ⟨fun h => ?_, fun h => ?_⟩)
        · have := bne_iff_ne.1 h
          rintro (h3 | h3)
          · exact h2 h3
          · exact this h3
        · exact bne_iff_ne.2 fun h3 => h (.inr h3)
  · rw [if_neg h1]
    exact ev_is fun k => (if_neg (by simpa using h1)).trans rfl
theorem SetZ_spec (l : List ZZ) (q : ByteArray) (d v : Int) : Ev (fun k => spec_SetZ.f k l q d v) (setR l q d v) := by
  unfold spec_SetZ.f setR
  refine ev_call (askT_spec l q) ?_
  by_cases h : askT l q = 0
  · rw [if_pos h]
    obtain ⟨hR, _, _⟩ := askT_ok h
    exact ev_cong (fun k => if_pos h) (ev_call (set_in_spec hR.good hR.few hR.rise q d v) (Ev.now _))
  · rw [if_neg h]
    exact ev_is fun k => if_neg h
theorem SetZ_impl (l : List ZZ) (q : ByteArray) (d v : Int) : Ev (fun k => impl_SetZ.f k l q d v) (setR l q d v) := by
  unfold impl_SetZ.f setR
  refine ev_call (askT_impl l q) ?_
  by_cases h : askT l q = 0
  · rw [if_pos h]
    obtain ⟨hR, _, _⟩ := askT_ok h
    have hf := hR.few
    refine ev_cong (fun k => if_pos h) (ev_call (find_is hR.rise (by omega) q) (ev_is fun k => ?_))
    unfold impl_isData.f setIn
    rw [impl_within_is, clone_impl l (by omega)]
    simp only [Option.bind_some]
    by_cases h1 : 0 ≤ d ∧ d ≤ 9999
    · rw [if_pos (decide_eq_true h1), if_pos h1]
      cases c : hereK pk l q.data.toList with
      | false => rw [if_neg (by simp), if_neg (by simp)]; rfl
      | true =>
        have hp := hereK_lt c
        rw [if_pos rfl, if_pos rfl]
        generalize posK pk l q.data.toList = p at hp
        rw [if_pos (by omega), if_pos (by omega)]
        have e : impl_isVersion.f v ((rd_T47 l (p : Int)).f0) ((rd_T47 l (p : Int)).f1) ((rd_T47 l (p : Int)).f2) ((rd_T47 l (p : Int)).f3) ((rd_T47 l (p : Int)).f4) = some (decide (v = -1 ∨ v = (rd_T47 l (p : Int)).f2)) := by
          unfold impl_isVersion.f
          by_cases h2 : v = -1
          · rw [if_pos h2, decide_eq_true (.inl h2)]
          · rw [if_neg h2]
            by_cases h3 : v = (rd_T47 l (p : Int)).f2
            · rw [decide_eq_true (.inr h3), beq_iff_eq.2 h3]
            · rw [decide_eq_false (fun h => h.elim h2 h3), beq_eq_false_iff_ne.2 h3]
        rw [e, Option.bind_some]
        unfold setAt
        by_cases h2 : v = -1 ∨ v = (rd_T47 l (p : Int)).f2
        · rw [if_pos (decide_eq_true h2), if_pos h2]
          by_cases h3 : (rd_T47 l (p : Int)).f2 = 999
          · rw [if_pos h3, if_pos h3]; rfl
          · rw [if_neg h3, if_neg h3, if_pos (by omega)]; rfl
        · rw [if_neg (by simpa using h2), if_neg h2]; rfl
    · rw [if_neg (by simpa using h1), if_neg h1]; rfl
  · rw [if_neg h]
    exact ev_is fun k => if_neg h
theorem setR_len (l : List ZZ) (q : ByteArray) (d v : Int) : (setR l q d v).2.2.length ≤ l.length := by
  unfold setR setIn setAt badZ putV putD
  split
  · split
    · split
      · split
        · split <;> simp
        · simp
      · simp
    · simp
  · simp
end Go.Proofs.YtdemicncljgccaaDoor.Pure

/- SetZ: the program's answer is the reference's, for all nodes, texts and numbers; it writes into no argument, and its answer owns its memory. No condition. -/
namespace Go.Proofs.YtdemicncljgccaaDoor.Pure
open Go.RowKit Go.Proofs.YtdemicncljgccaaDoor.Qa Go.Proofs.YtdemicncljgccaaDoorW.PrintWords Go.Proofs.YtdemicncljgccaaDoorW.PrintLast Go.Proofs.YtdemicncljgccaaDoor.Aid
theorem FnExactSetZ (l : List S46) (q : ByteArray) (d v : Int) (hl : l.length ≤ 9223372036854775807 ∧ ∀ y_ ∈ l, g46 y_) (_ : q.size ≤ 9223372036854775807) (_ : (Lit.int .i64 d).wf = true) (_ : (Lit.int .i64 v).wf = true) : ∃ k, laws_FnExactSetZ.f k l q d v = some true := by
  refine Ev.rounds ?_
  unfold laws_FnExactSetZ.f
  by_cases hz : (q.size : Int) > 1048576
  · exact ev_is fun k => if_pos hz
  refine ev_cong (fun k => if_neg hz) ?_
  obtain ⟨r, hr, hq⟩ := laws_szZnodeS.ev l 1048576 hl.1 (fun x hx => (hl.2 x hx).1) (by omega) (by omega)
  refine ev_step _ (fun k => by simp only [laws_FnExactSetZ.j0]; rfl) (ev_call hr ?_)
  by_cases h : r < 0
  · exact ev_is fun k => if_pos h
  refine ev_cong (fun k => if_neg h) ?_
  obtain ⟨h1, h2, _⟩ := hq (by omega)
  have ht := laws_toZnodeS.ev l (by omega)
  have h3 : (l.map cvZnode).length ≤ 1048576 := by rw [List.length_map]; omega
  have hS := SetZ_spec (l.map cvZnode) q d v
  have hI := SetZ_impl (l.map cvZnode) q d v
  have hR := setR_len (l.map cvZnode) q d v
  generalize setR (l.map cvZnode) q d v = R at hS hI hR ⊢
  have hE := eqZR R.1 R.2.1 R.2.2 (by omega)
  have hM := markZR R.1 R.2.1 R.2.2 (by omega)
  have hH := heldZR R.1 R.2.1 R.2.2.length (by omega)
  refine ev_step _ (fun k => by simp only [laws_FnExactSetZ.j1]; rfl) (ev_call ht (ev_call hS (ev_call ht (ev_call hI (ev_call hE (ev_cong (fun k => if_pos rfl) ?_))))))
  refine ev_step _ (fun k => by simp only [laws_FnExactSetZ.j2]; rfl) (ev_call ht (ev_call (laws_eqZnodeS.ev (l.map cvZnode) (by omega)) (ev_cong (fun k => if_pos rfl) ?_)))
  refine ev_step _ (fun k => by simp only [laws_FnExactSetZ.j3]; rfl) (ev_call (laws_markZnodeS.ev (l.map cvZnode) 1 (by omega) (by omega) (by omega)) (ev_cong (fun k => if_neg (by show ¬ (1 + 5 * ((l.map cvZnode).length : Int) < 0); omega)) (ev_call hE ?_)))
  refine ev_step _ (fun k => by simp only [laws_FnExactSetZ.j4]; rw [if_neg (by simp)]) ?_
  refine ev_step _ (fun k => by simp only [laws_FnExactSetZ.j5]; rfl) (ev_call hM (ev_call hH (ev_cong (fun k => if_neg (show ¬ (1 + 5 * (R.2.2.length : Int) < 0) by omega)) ?_)))
  refine ev_step _ (fun k => by simp only [laws_FnExactSetZ.j6]; exact if_pos trivial) ?_
  refine ev_step _ (fun k => by simp only [laws_FnExactSetZ.j7]; rfl) (ev_call ht (ev_call hI (ev_call hE (ev_cong (fun k => if_pos rfl) ?_))))
  refine ev_step _ (fun k => by simp only [laws_FnExactSetZ.j8]; rfl) (ev_call hH (ev_is fun k => ?_))
  rw [if_neg (show ¬ (1 + 5 * (R.2.2.length : Int) < 0) by omega), if_pos rfl]
end Go.Proofs.YtdemicncljgccaaDoor.Pure

/- For every input the law loop.example/g00369/laws.FnExactSetZ returns true, and every argument reads behind the call as it read before. No condition. -/
namespace Go.Proofs.YtdemicncljgccaaDoor.fnExactSetZ
open Go.ChangeShapes Go.WideShapes Go.ChangeAt Go.RowKit Go.Proofs.YtdemicncljgccaaDoor.Qa Go.Proofs.YtdemicncljgccaaDoor.Tro Go.Proofs.YtdemicncljgccaaDoorW.PrintWords
open Go.ChangeMaps (open_string shut_string)
set_option linter.unusedVariables false
set_option linter.unusedSimpArgs false
theorem own : ownKnob Tryd.prog.godebug = none := by kernel_rfl
theorem laidOut : laidOutB Tryd.prog = true := by kernel_rfl
set_option maxRecDepth 100000 in
theorem lifted (os : Os) (started : os.Started) (H : Type) (enc : TypeId × Value → H) :
    ReturnsInHanded {} Tryd.checked os 6 .any (fun w args => (Rows.fnExactSetZSpec.pre enc Tryd.prog Tryd.f6 [] false w args ∧ laidMetH Tryd.prog Rows.fnExactSetZRow.laid w) ∧ sizedMet enc Tryd.prog Tryd.f6 (OpenSpec.ofChange Rows.fnExactSetZSpec) false w args) (Rows.fnExactSetZSpec.post enc Tryd.prog Tryd.f6 false true false false) := by
  refine returnsInHanded_of_change_and (C := Tryd.checked) (X := fun w _ => laidMetH Tryd.prog Rows.fnExactSetZRow.laid w) (fun _ _ _ hh h => h.of_heap hh) own started (by kernel_rfl) Tryd.func6
    (ChangeSpec.witness_shaped (enc := enc) (C := Tryd.checked) (os := os) (X := fun w _ => laidMetH Tryd.prog Rows.fnExactSetZRow.laid w) false (World.laidAll Tryd.prog os Rows.fnExactSetZRow.laid) #[.slice none 0 0, .string ByteArray.empty, .int .i64 0, .int .i64 0] 8 (World.laidAll_os _ _ _)
      (World.shaped_of_ZipB (by kernel_rfl) (by kernel_rfl)) (by kernel_rfl) (by kernel_rfl) (by kernel_rfl)
      (by rw [MakeChecks.laidMetH_plain _ _ _ (by kernel_rfl)]; exact laidMet_laidAll _ (by kernel_rfl) (by kernel_rfl))) ?_
  intro W base args ds gs before hval0 hW _ _ hL _
  have hval : ∀ (j : Nat) t v, Tryd.f6.params[j]? = some t → args[j]? = some v → Value.okWide Tryd.prog W .any base t v := hval0
  have hW' := hW
  obtain ⟨p, q, hA0, hV, rfl, hfz, hnd⟩ := hW
  have hA : DataW.TrodAll enc Tryd.prog W 0 (fun _ => true) true Tryd.f6.params.toList args.toList ds p := hA0
  rw [Tryd.params6] at hA hval
  obtain ⟨v0, vs0, d0, ds0, p0, q0, hargs, rfl, rfl, h0, r0⟩ := trodAll_cons hA
  obtain ⟨v1, vs1, d1, ds1, p1, q1, rfl, rfl, rfl, h1, r1⟩ := trodAll_cons r0
  obtain ⟨v2, vs2, d2, ds2, p2, q2, rfl, rfl, rfl, h2, r2⟩ := trodAll_cons r1
  obtain ⟨v3, vs3, d3, ds3, p3, q3, rfl, rfl, rfl, h3, r3⟩ := trodAll_cons r2
  obtain ⟨rfl, rfl, rfl⟩ := trodAll_nil r3
  obtain rfl : args = #[v0, v1, v2, v3] := by cases args; simp_all
  obtain ⟨rfl, rfl⟩ := trodVars_none hV
  have k0 := h0
  have lt0 : ∀ x ∈ p0, x.block < W.heap.size := by obtain ⟨m, hm⟩ := k0; exact DataW.trod_lt m _ _ _ hm
  obtain ⟨a0, len0, cap0, rfl⟩ := okWide_slice Tryd.underlying22 (hval 0 22 v0 rfl rfl)
  obtain ⟨fuel0, hf0⟩ := h0
  obtain ⟨l0, hK0, hg0⟩ := (tr_slice Tryd.underlying22 (by kernel_rfl) tr46) enc W _ _ _ hf0
  obtain ⟨A0, c0, hcs0, hl0, hC0⟩ := hK0
  simp only [Value.cells, List.cons.injEq, Value.slice.injEq, and_true] at hcs0
  obtain ⟨rfl, rfl, rfl⟩ := hcs0
  obtain ⟨a1, rfl, rfl, rfl, y1⟩ := open_string Tryd.underlying9 (hval 1 9 v1 rfl rfl) h1
  obtain ⟨a2, rfl, rfl, rfl, w2⟩ := open_int Tryd.underlying2 (hval 2 2 v2 rfl rfl) h2
  obtain ⟨a3, rfl, rfl, rfl, w3⟩ := open_int Tryd.underlying2 (hval 3 2 v3 rfl rfl) h3
  obtain ⟨k, hk⟩ := Pure.FnExactSetZ l0 a1 a2 a3 hg0 y1 w2 w3
  refine (laws_FnExactSetZ.calls k _ _ l0 a1 a2 a3 true W hC0 hl0 hk).mono fun e W' hE => ?_
  obtain ⟨he, hd⟩ := hE
  have bel : Below W.heap.size W W' := hd
  subst he
  exact ⟨_, rfl, _, _, _, [], _, [], hW', trodAll_mk1 (shut_bool Tryd.underlying4 _), (trodAll_cons_mk (Below.trod laidOut (by kernel_rfl) (of_decide_eq_true (by kernel_rfl)) k0 bel lt0) (trodAll_cons_mk (shut_string Tryd.underlying9 y1) (trodAll_cons_mk (shut_int Tryd.underlying2 w2) (trodAll_cons_mk (shut_int Tryd.underlying2 w3) trodAll_mk0)))), rfl, bel.frame _, fun h => by cases h⟩
theorem over : Rows.fnExactSetZRow.holds Tryd.pinned (OpenSpec.ofChange Rows.fnExactSetZSpec) :=
  OpenClaim.holds_of_wide 6 Tryd.f6 rfl rfl rfl rfl rfl rfl rfl ⟨rfl, rfl, rfl, rfl, rfl⟩ rfl rfl rfl rfl rfl (by kernel_rfl) Tryd.func6 (by kernel_rfl)
    (of_decide_eq_true (by kernel_rfl)) (by unfold Func.isWrapper; first | (rw [if_pos (by decide +kernel)]; kernel_rfl) | (rw [if_neg (by decide +kernel)]; exact ⟨rfl, rfl⟩))
    (fun os started H enc _ => lifted os started H enc)
theorem proved : Rows.FnExactSetZCardSaid :=
  Claim7.holds_tied_plain_at .later [] [.data, .pinned] true (true, "07ce9bcf5ebd61c6439111617cc81b0fe086824567e940ca6dc685d0e812f4cf") false over (fun _ h => by cases h) (by kernel_rfl) (fun _ h => by cases h) fnExactSetZ_row_tie rfl ⟨rfl, rfl⟩ (by kernel_rfl) rfl
    (fun f fn hf hfn => by
      obtain rfl : f = 6 := Option.some.inj ((show Tryd.prog.funcNamed "loop.example/g00369/laws.FnExactSetZ" = some 6 by kernel_rfl).symm.trans hf) |>.symm
      obtain rfl : fn = Tryd.f6 := (Option.some.inj (Tryd.func6.symm.trans hfn)).symm
      exact ⟨by kernel_rfl, fun j t ht => by
        rw [Tryd.params6] at ht
        have hm : t ∈ [22, 9, 2, 2] := by simpa using Array.mem_of_getElem? ht
        have hall : ([22, 9, 2, 2].all fun u => !Tryd.prog.wantsStandIn u) = true := by kernel_rfl
        exact (show Tryd.prog.wantsStandIn t = false by simpa using List.all_eq_true.1 hall t hm)⟩)
    (by kernel_rfl)
#print axioms proved
end Go.Proofs.YtdemicncljgccaaDoor.fnExactSetZ
namespace Go.Proofs.YtdemicncljgccaaDoor
/-- The row, under a short name, for the claim. -/
theorem fnExactSetZ_holds : Rows.FnExactSetZCardSaid := fnExactSetZ.proved
end Go.Proofs.YtdemicncljgccaaDoor
