/- For every input the law FnExactNewTree returns true, and every argument reads behind the call as it read before: no condition. Here: the last part, the theorem in it. -/
import Derived.Test.YtaibahdfpbbmiaaQax13
import Derived.Test.YtaibahdfpbbmiaaQax35
import Derived.Test.YtaibahdfpbbmiaaQax36
import Derived.Test.YtaibahdfpbbmiaaQax44
import Derived.Test.YtaibahdfpbbmiaaQax45
import Derived.Test.YtaibahdfpbbmiaaQax6
import Derived.Test.YtaibahdfpbbmiaaQaxf
import Derived.Test.YtaibahdfpbbmiaaAid
import Derived.Test.YtaibahdfpbbmiaaQax21
import Derived.Test.YtaibahdfpbbmiaaQax22
import Derived.Test.YtaibahdfpbbmiaaQax23
import Derived.Test.YtaibahdfpbbmiaaQax24
import Derived.Test.YtaibahdfpbbmiaaQax27
import Derived.Test.YtaibahdfpbbmiaaQax30
import Derived.Test.YtaibahdfpbbmiaaQax32
import Derived.Test.YtaibahdfpbbmiaaQax33
import Derived.Test.YtaibahdfpbbmiaaRows
import Derived.Test.YtaibahdfpbbmiaaQaxr
import Derived.WalkKit
import Derived.ProofKit
import Derived.OpenShut
import Derived.ShutString
import Derived.ChangeOld
import Derived.Below
import Derived.SizedLaws
/- Sessions: what is wrong with a list of them, by the program and by the reference: the same, for every list. -/
namespace Go.Proofs.Ytaibahdfpbbmiaa.Pure
open Go.RowKit Go.Proofs.Ytaibahdfpbbmiaa.Qa Go.Proofs.YtaibahdfpbbmiaaW.PrintWords Go.Proofs.YtaibahdfpbbmiaaW.PrintLast Go.Proofs.Ytaibahdfpbbmiaa.Aid

theorem in_spec (a lo hi : Int) : spec_l1In.f a lo hi = some (decide (lo ≤ a ∧ a ≤ hi)) := by
  unfold spec_l1In.f
  by_cases h : lo ≤ a
  · rw [if_pos h]; simp [h]
  · rw [if_neg h]; simp [h]
theorem in_impl (a lo hi : Int) : impl_within.f a lo hi = some (decide (lo ≤ a ∧ a ≤ hi)) := by
  unfold impl_within.f
  by_cases h : lo ≤ a
  · rw [if_pos h]; simp [h]
  · rw [if_neg h]; simp [h]
theorem id_spec (a : Int) : spec_l4Id.f a = some (decide (1 ≤ a ∧ a ≤ 9)) := by unfold spec_l4Id.f; rw [in_spec]; rfl
theorem id_impl (a : Int) : impl_isClient.f a = some (decide (1 ≤ a ∧ a ≤ 9)) := by unfold impl_isClient.f; rw [in_impl]; rfl

abbrev SS := S75
def sBad (s : SS) : Bool := !(decide (1 ≤ s.f0 ∧ s.f0 ≤ 9) && decide (0 ≤ s.f1 ∧ s.f1 ≤ 9999))
def sOne (prev : Option Int) (s : SS) : Int := if sBad s then 3 else match prev with
  | some p => if s.f0 ≤ p then 1 else 0
  | none => 0
def sFrom : Option Int → List SS → Int
  | _, [] => 0
  | prev, s :: r => if sOne prev s = 0 then sFrom (some s.f0) r else sOne prev s
def sFault (l : List SS) : Int := if l.length > 6 then 2 else sFrom none l
def prevOf (l : List SS) : Nat → Option Int
  | 0 => none
  | i + 1 => some (rd_T75 l (i : Int)).f0
theorem sFrom_cons {prev : Option Int} {s : SS} {r : List SS} : sFrom prev (s :: r) = if sOne prev s = 0 then sFrom (some s.f0) r else sOne prev s := rfl
theorem wrap_down {i : Nat} (h : i < 4611686018427387904) : wrap64 (((i + 1 : Nat) : Int) - 1) = (i : Int) := by
  rw [wrap_id (by omega) (by omega)]
  omega

theorem specFault_l0 (l : List SS) (hl : l.length ≤ 4611686018427387904) (d : Nat) : ∀ (i : Nat), i + d = l.length → Ev (fun k => spec_l4Fault.l0 k l (i : Int)) (sFrom (prevOf l i) (l.drop i)) := by
  induction d with
  | zero =>
    intro i h
    rw [drop_end (by omega)]
    exact ev_done fun k => by simp only [spec_l4Fault.l0]; rw [if_neg (by omega)]; rfl
  | succ d ih =>
    intro i h
    have hi : i < l.length := by omega
    have hr := rd_T75_at hi
    have IH := ih (i + 1) (by omega)
    have hp : prevOf l (i + 1) = some (l[i]).f0 := by rw [prevOf, hr]
    rw [hp] at IH
    rw [drop_at hi, sFrom_cons]
    refine ev_step (fun k => spec_l4Fault.j1 k l (i : Int) (sBad l[i])) (fun k => ?_) ?_
    · simp only [spec_l4Fault.l0]
      rw [if_pos (by omega), if_pos (by omega), hr, id_spec, in_spec]
      unfold sBad
      by_cases c1 : 1 ≤ (l[i]).f0 ∧ (l[i]).f0 ≤ 9 <;> simp [c1]
    · cases hb : sBad l[i] with
      | true =>
        have e : sOne (prevOf l i) l[i] = 3 := by unfold sOne; rw [if_pos hb]
        rw [e]
        exact ev_done fun k => by simp only [spec_l4Fault.j1]; simp
      | false =>
        have e : sOne (prevOf l i) l[i] = match prevOf l i with
            | some p => if (l[i]).f0 ≤ p then 1 else 0
            | none => 0 := by unfold sOne; rw [if_neg (by simp [hb])]
        rw [e]
        cases i with
        | zero =>
          refine ev_step (fun k => spec_l4Fault.l0 k l ((0 + 1 : Nat) : Int)) (fun k => ?_) (by simpa [prevOf] using IH)
          simp only [spec_l4Fault.j1]; rw [if_neg (by simp), if_neg (by omega), wrap_up hi hl]
        | succ j =>
          have hj : j < l.length := by omega
          by_cases c : (l[j + 1]).f0 ≤ (rd_T75 l (j : Int)).f0
          · have e2 : (match prevOf l (j + 1) with | some p => if (l[j + 1]).f0 ≤ p then (1 : Int) else 0 | none => 0) = 1 := by simp [prevOf, c]
            rw [e2]
            refine ev_done fun k => ?_
            simp only [spec_l4Fault.j1]; rw [if_neg (by simp), if_pos (by omega), if_pos (by omega), if_pos (by omega), wrap_down (by omega), if_pos (by omega), if_pos (by omega), hr, if_pos c]; rfl
          · have e2 : (match prevOf l (j + 1) with | some p => if (l[j + 1]).f0 ≤ p then (1 : Int) else 0 | none => 0) = 0 := by simp [prevOf, c]
            rw [e2]
            refine ev_step (fun k => spec_l4Fault.l0 k l ((j + 1 + 1 : Nat) : Int)) (fun k => ?_) (by simpa using IH)
            simp only [spec_l4Fault.j1]; rw [if_neg (by simp), if_pos (by omega), if_pos (by omega), if_pos (by omega), wrap_down (by omega), if_pos (by omega), if_pos (by omega), hr, if_neg c, wrap_up hi hl]
theorem specFault (l : List SS) (hl : l.length ≤ 4611686018427387904) : Ev (fun k => spec_l4Fault.f k l) (sFault l) := by
  unfold spec_l4Fault.f sFault
  by_cases h : l.length > 6
  · exact ev_is fun k => by rw [if_pos (by omega), if_pos h]
  · rw [if_neg h]
    exact ev_cong (fun k => if_neg (by omega)) (specFault_l0 l hl l.length 0 (by omega))
theorem implFault_l0 (l : List SS) (hl : l.length ≤ 4611686018427387904) (d : Nat) : ∀ (i : Nat), i + d = l.length → Ev (fun k => impl_SessionsFault.l0 k l l (l.length : Int) (i : Int)) (sFrom (prevOf l i) (l.drop i)) := by
  induction d with
  | zero =>
    intro i h
    rw [drop_end (by omega)]
    exact ev_done fun k => by simp only [impl_SessionsFault.l0]; rw [if_neg (by omega)]; rfl
  | succ d ih =>
    intro i h
    have hi : i < l.length := by omega
    have hr := rd_T75_at hi
    have IH := ih (i + 1) (by omega)
    have hp : prevOf l (i + 1) = some (l[i]).f0 := by rw [prevOf, hr]
    rw [hp] at IH
    rw [drop_at hi, sFrom_cons]
    refine ev_step (fun k => impl_SessionsFault.j1 k l (i : Int) l (l.length : Int) (i : Int) (sBad l[i]) (l[i]).f0 (l[i]).f1) (fun k => ?_) ?_
    · simp only [impl_SessionsFault.l0]
      rw [if_pos (by omega), if_pos (by omega), if_pos (by omega), hr, id_impl, in_impl]
      unfold sBad
      by_cases c1 : 1 ≤ (l[i]).f0 ∧ (l[i]).f0 ≤ 9 <;> simp [c1]
    · cases hb : sBad l[i] with
      | true =>
        have e : sOne (prevOf l i) l[i] = 3 := by unfold sOne; rw [if_pos hb]
        rw [e]
        exact ev_done fun k => by simp only [impl_SessionsFault.j1]; simp
      | false =>
        have e : sOne (prevOf l i) l[i] = match prevOf l i with
            | some p => if (l[i]).f0 ≤ p then 1 else 0
            | none => 0 := by unfold sOne; rw [if_neg (by simp [hb])]
        rw [e]
        cases i with
        | zero =>
          refine ev_step (fun k => impl_SessionsFault.l0 k l l (l.length : Int) ((0 + 1 : Nat) : Int)) (fun k => ?_) (by simpa [prevOf] using IH)
          simp only [impl_SessionsFault.j1]; rw [if_neg (by simp), if_neg (by omega), wrap_up hi hl]
        | succ j =>
          have hj : j < l.length := by omega
          by_cases c : (l[j + 1]).f0 ≤ (rd_T75 l (j : Int)).f0
          · have e2 : (match prevOf l (j + 1) with | some p => if (l[j + 1]).f0 ≤ p then (1 : Int) else 0 | none => 0) = 1 := by simp [prevOf, c]
            rw [e2]
            refine ev_done fun k => ?_
            simp only [impl_SessionsFault.j1]; rw [if_neg (by simp), if_pos (by omega), wrap_down (by omega), if_pos (by omega), if_pos (by omega), if_pos c]; rfl
          · have e2 : (match prevOf l (j + 1) with | some p => if (l[j + 1]).f0 ≤ p then (1 : Int) else 0 | none => 0) = 0 := by simp [prevOf, c]
            rw [e2]
            refine ev_step (fun k => impl_SessionsFault.l0 k l l (l.length : Int) ((j + 1 + 1 : Nat) : Int)) (fun k => ?_) (by simpa using IH)
            simp only [impl_SessionsFault.j1]; rw [if_neg (by simp), if_pos (by omega), wrap_down (by omega), if_pos (by omega), if_pos (by omega), if_neg c, wrap_up hi hl]
theorem implFault (l : List SS) (hl : l.length ≤ 4611686018427387904) : Ev (fun k => impl_SessionsFault.f k l) (sFault l) := by
  unfold impl_SessionsFault.f sFault
  by_cases h : l.length > 6
  · exact ev_is fun k => by rw [if_pos (by omega), if_pos h]
  · rw [if_neg h]
    exact ev_cong (fun k => if_neg (by omega)) (implFault_l0 l hl l.length 0 (by omega))
end Go.Proofs.Ytaibahdfpbbmiaa.Pure

/- NewTree: the program's answer is the reference's, for every number, and its answer owns its memory. No condition. -/
namespace Go.Proofs.Ytaibahdfpbbmiaa.Pure
open Go.RowKit Go.Proofs.Ytaibahdfpbbmiaa.Qa Go.Proofs.YtaibahdfpbbmiaaW.PrintWords Go.Proofs.YtaibahdfpbbmiaaW.PrintLast Go.Proofs.Ytaibahdfpbbmiaa.Aid
abbrev ZZ := S70
def newR (a : Int) : Int × ByteArray × List ZZ := if 0 ≤ a ∧ a ≤ 9999 then (0, (⟨#[]⟩ : ByteArray), [(⟨(⟨#[47]⟩ : ByteArray), a, 0, 0, 0⟩ : ZZ)]) else (3, (⟨#[]⟩ : ByteArray), [])
theorem NewTree_spec (a : Int) : spec_NewTree.f a = some (newR a) := by
  unfold spec_NewTree.f spec_l2Data.f newR
  rw [in_spec]
  by_cases h : 0 ≤ a ∧ a ≤ 9999 <;> simp [h]
theorem NewTree_impl (a : Int) : impl_NewTree.f a = some (newR a) := by
  unfold impl_NewTree.f impl_isData.f newR
  rw [in_impl]
  by_cases h : 0 ≤ a ∧ a ≤ 9999 <;> simp [h]
theorem newR_len (a : Int) : (newR a).2.2.length ≤ 1 := by
  unfold newR
  split <;> simp
theorem eqZR (c : Int) (p : ByteArray) (l : List ZZ) (hl : l.length ≤ 4611686018427387904) : Ev (fun k => laws_eqZResult.f k c p l c p l) true := by
  unfold laws_eqZResult.f
  exact ev_cong (fun k => if_pos rfl) (ev_cong (fun k => if_pos rfl) (ev_call (laws_eqZnodeS.ev l hl) (ev_is fun k => if_pos rfl)))
theorem markZR (c : Int) (p : ByteArray) (l : List ZZ) (hl : l.length ≤ 1048576000) : Ev (fun k => laws_markZResult.f k c p l 1) (1 + 5 * l.length, rowZnodeS l.length 1) := by
  unfold laws_markZResult.f
  exact ev_call (laws_markZnodeS.ev l 1 hl (by omega) (by omega)) (Ev.now _)
theorem heldZR (c : Int) (p : ByteArray) (n : Nat) (hl : n ≤ 1048576000) : Ev (fun k => laws_heldZResult.f k c p (rowZnodeS n 1) 1) (1 + 5 * (n : Int)) := by
  unfold laws_heldZResult.f
  exact ev_call (laws_heldZnodeS.ev n 1 hl (by omega) (by omega)) (ev_is fun k => if_neg (by omega))
theorem FnExactNewTree (a : Int) (_ : (Lit.int .i64 a).wf = true) : ∃ k, laws_FnExactNewTree.f k a = some true := by
  refine Ev.rounds ?_
  unfold laws_FnExactNewTree.f
  rw [NewTree_spec, NewTree_impl]
  have hR := newR_len a
  simp only [Option.bind_some]
  generalize newR a = R at hR ⊢
  have hE := eqZR R.1 R.2.1 R.2.2 (by omega)
  have hM := markZR R.1 R.2.1 R.2.2 (by omega)
  have hH := heldZR R.1 R.2.1 R.2.2.length (by omega)
  refine ev_call hE (ev_cong (fun k => if_pos rfl) (ev_call hM (ev_call hH (ev_cong (fun k => if_neg (by omega)) (ev_cong (fun k => if_pos rfl) ?_)))))
  refine ev_call hE (ev_cong (fun k => if_pos rfl) (ev_call hH (ev_is fun k => ?_)))
  rw [if_neg (by omega), if_pos rfl]
end Go.Proofs.Ytaibahdfpbbmiaa.Pure

/- For every input the law loop.example/g00369/laws.FnExactNewTree returns true, and every argument reads behind the call as it read before. No condition. -/
namespace Go.Proofs.Ytaibahdfpbbmiaa.fnExactNewTree
open Go.ChangeShapes Go.WideShapes Go.ChangeAt Go.RowKit Go.Proofs.Ytaibahdfpbbmiaa.Qa Go.Proofs.Ytaibahdfpbbmiaa.Tro Go.Proofs.YtaibahdfpbbmiaaW.PrintWords
open Go.ChangeMaps (open_string shut_string)
set_option linter.unusedVariables false
set_option linter.unusedSimpArgs false
theorem own : ownKnob Try.prog.godebug = none := by kernel_rfl
theorem laidOut : laidOutB Try.prog = true := by kernel_rfl
set_option maxRecDepth 100000 in
theorem lifted (os : Os) (started : os.Started) (H : Type) (enc : TypeId × Value → H) :
    ReturnsInHanded {} Try.checked os 4 .any (Rows.fnExactNewTreeSpec.pre6 enc Try.prog Try.f4 Rows.fnExactNewTreeRow.domain false) (Rows.fnExactNewTreeSpec.post enc Try.prog Try.f4 false true false false) := by
  refine returnsInHanded_of_change_sized (C := Try.checked) own started (by kernel_rfl) Try.func4
    (ChangeSpec.witness6 (enc := enc) (C := Try.checked) false ⟨#[], #[.int .i64 0], []⟩ 8 (by kernel_rfl) (by kernel_rfl) (by kernel_rfl) (by kernel_rfl)) ?_
  intro W base args ds gs before hval0 hW hcnd hsz0 _
  have hval : ∀ (j : Nat) t v, Try.f4.params[j]? = some t → args[j]? = some v → Value.okWide Try.prog W .any base t v := hval0
  have hW' := hW
  obtain ⟨p, q, hA0, hV, rfl, hfz, hnd⟩ := hW
  have hA : DataW.TrodAll enc Try.prog W 0 (fun _ => true) true Try.f4.params.toList args.toList ds p := hA0
  rw [Try.params4] at hA hval
  obtain ⟨v0, vs0, d0, ds0, p0, q0, hargs, rfl, rfl, h0, r0⟩ := trodAll_cons hA
  obtain ⟨rfl, rfl, rfl⟩ := trodAll_nil r0
  obtain rfl : args = #[v0] := by cases args; simp_all
  obtain ⟨rfl, rfl⟩ := trodVars_none hV
  obtain ⟨a0, rfl, rfl, rfl, w0⟩ := open_int Try.underlying2 (hval 0 2 v0 rfl rfl) h0
  obtain ⟨k, hk⟩ := Pure.FnExactNewTree a0 w0
  refine (laws_FnExactNewTree.calls k a0 true W hk).mono fun e W' hE => ?_
  obtain ⟨he, hd⟩ := hE
  have bel : Below W.heap.size W W' := hd
  subst he
  exact ⟨_, rfl, _, _, _, [], _, [], hW', trodAll_mk1 (shut_bool Try.underlying4 _), (trodAll_cons_mk (shut_int Try.underlying2 w0) trodAll_mk0), rfl, bel.frame _, fun h => by cases h⟩
theorem over : Rows.fnExactNewTreeRow.holds Try.pinned (OpenSpec.ofChange Rows.fnExactNewTreeSpec) :=
  OpenClaim.holds_of_wide 4 Try.f4 rfl rfl rfl rfl rfl rfl rfl ⟨rfl, rfl, rfl, rfl, rfl⟩ rfl rfl rfl rfl rfl (by kernel_rfl) Try.func4 (by kernel_rfl)
    (of_decide_eq_true (by kernel_rfl)) (by unfold Func.isWrapper; first | (rw [if_pos (by decide +kernel)]; kernel_rfl) | (rw [if_neg (by decide +kernel)]; exact ⟨rfl, rfl⟩))
    (fun os started H enc _ => lifted os started H enc)
theorem proved : Rows.FnExactNewTreeSaid := over
#print axioms proved
end Go.Proofs.Ytaibahdfpbbmiaa.fnExactNewTree
namespace Go.Proofs.Ytaibahdfpbbmiaa
/-- The row, under a short name, for the claim. -/
theorem fnExactNewTree_holds : Rows.FnExactNewTreeSaid := fnExactNewTree.proved
end Go.Proofs.Ytaibahdfpbbmiaa
