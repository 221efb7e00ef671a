/- A part of the proof that for every input the law FnExactSetZ returns true: no condition. Functions of the translation, each proved to do what a plain Lean function tells, and what these tell. -/
import Derived.Test.YtdemicncljgccaaDoorQax0
import Derived.Test.YtdemicncljgccaaDoorZFnExactSetZa
import Derived.Test.YtdemicncljgccaaDoorQax2
import Derived.Test.YtdemicncljgccaaDoorQax16
import Derived.Test.YtdemicncljgccaaDoorQax36
import Derived.Test.YtdemicncljgccaaDoorQax43
import Derived.Test.YtdemicncljgccaaDoorQax45
import Derived.Test.YtdemicncljgccaaDoorQax46
import Derived.Test.YtdemicncljgccaaDoorQax48
import Derived.Test.YtdemicncljgccaaDoorWWords
import Derived.Deep.Slices
import Derived.ChangeArms
import Derived.Test.YtdemicncljgccaaDoorQax1
import Derived.Test.YtdemicncljgccaaDoorQax15
import Derived.Test.YtdemicncljgccaaDoorQax35
import Derived.Test.YtdemicncljgccaaDoorQax44
import Derived.Test.YtdemicncljgccaaDoorQax47
import Derived.Test.YtdemicncljgccaaDoorQax5
import Derived.Test.YtdemicncljgccaaDoorQax6
import Derived.Test.YtdemicncljgccaaDoorQax4
import Derived.Test.YtdemicncljgccaaDoorQax7
import Derived.Test.YtdemicncljgccaaDoorQax8
import Derived.Test.YtdemicncljgccaaDoorQax11
import Derived.Lib.Bytealg
import Derived.Test.YtdemicncljgccaaDoorQax12
import Derived.Test.YtdemicncljgccaaDoorQax10
import Derived.Test.YtdemicncljgccaaDoorQax13
import Derived.Test.YtdemicncljgccaaDoorQax3
import Derived.Test.YtdemicncljgccaaDoorQax9
-- By gp.py (wip/gen of the work's repo), a program of this workplace over the kit's print: Lean checks it.
namespace Go.Proofs.YtdemicncljgccaaDoor.Qa
open Go.RowKit Go.Proofs.YtdemicncljgccaaDoorW.PrintWords Go.Proofs.YtdemicncljgccaaDoorW.PrintLast Go.Proofs.YtdemicncljgccaaDoorW.PrintMore
attribute [local go_sem] max2_int min2_int max_two min_two max_three min_three max_four min_four   -- for this text's walks alone
set_option linter.unusedVariables false
set_option linter.unusedSimpArgs false
set_option maxHeartbeats 8000000
set_option maxRecDepth 100000

/-! ### impl_SetZ: function 24 -/
def impl_SetZ.f (k : Nat) (l0 : List (S47)) (a1 : ByteArray) (a2 : Int) (a3 : Int) : Option (Int × ByteArray × (List (S47))) := (impl_zCode.f k l0 a1).bind fun t102 => (if t102 = 0 then ((impl_find.f k l0 a1).bind fun bt103 => ((impl_isData.f a2).bind fun t105 => (if t105 = true then (if bt103.2 = true then (if 0 ≤ bt103.1 then (if bt103.1 < (l0.length : Int) then ((impl_isVersion.f a3 ((rd_T47 l0 bt103.1).f0) ((rd_T47 l0 bt103.1).f1) ((rd_T47 l0 bt103.1).f2) ((rd_T47 l0 bt103.1).f3) ((rd_T47 l0 bt103.1).f4)).bind fun t107 => (if t107 = true then (if ((rd_T47 l0 bt103.1).f2) = 999 then (some (2, (⟨#[]⟩ : ByteArray), ([] : List (S47)))) else ((slices_Clone_impl_Znode_impl_Znode.f l0).bind fun t109 => (if bt103.1 < (t109.length : Int) then ((some (t109.set (bt103.1 : Int).toNat (⟨(rd_T47 t109 bt103.1).f0, a2, (rd_T47 t109 bt103.1).f2, (rd_T47 t109 bt103.1).f3, (rd_T47 t109 bt103.1).f4⟩ : S47) : List (S47))).bind fun y112 => (some (0, (⟨#[]⟩ : ByteArray), (y112.set (bt103.1 : Int).toNat (⟨(rd_T47 y112 bt103.1).f0, (rd_T47 y112 bt103.1).f1, wrap64 (((rd_T47 y112 bt103.1).f2) + 1), (rd_T47 y112 bt103.1).f3, (rd_T47 y112 bt103.1).f4⟩ : S47))))) else (none)))) else (some (7, (⟨#[]⟩ : ByteArray), ([] : List (S47)))))) else (none)) else (none)) else (some (4, (⟨#[]⟩ : ByteArray), ([] : List (S47))))) else (some (3, (⟨#[]⟩ : ByteArray), ([] : List (S47))))))) else (some (t102, (⟨#[]⟩ : ByteArray), ([] : List (S47)))))
theorem impl_SetZ.mono : ∀ a0 a1 a2 a3 k, LeO (impl_SetZ.f k a0 a1 a2 a3) (impl_SetZ.f (k + 1) a0 a1 a2 a3) := by
 intro a0 a1 a2 a3 k
 unfold impl_SetZ.f
 repeat' first
   | (with_reducible exact impl_find.mono _ _ _)
   | (with_reducible exact impl_zCode.mono _ _ _)
   | (with_reducible exact LeO.refl _)
   | (with_reducible exact LeO.none _)
   | (with_reducible refine LeO.ite ?_ ?_)
   | (with_reducible refine LeO.bind ?_ (fun _ => ?_))
   | exact impl_find.mono _ _ _
   | exact impl_zCode.mono _ _ _
   | exact LeO.none _
   | refine LeO.ite ?_ ?_
   | refine LeO.bind ?_ (fun _ => ?_)
theorem impl_SetZ.calls (k : Nat) (A0 : Option Addr) (c0 : Nat) (l0 : List (S47)) (a1 : ByteArray) (a2 : Int) (a3 : Int) (r1 : Int) (r2 : ByteArray) (r3 : List (S47)) (w : World) (hr0 : Kd.C k47 w A0 l0.length l0) (hc0 : l0.length ≤ c0) (h : impl_SetZ.f k l0 a1 a2 a3 = some (r1, r2, r3)) :
  Calls Tryd.prog 24 #[.slice A0 l0.length c0, .string a1, .int .i64 a2, .int .i64 a3] w fun e w' => ∃ v2_ : Value, e = .returned (.agg #[.int .i64 r1, .string r2, v2_]) ∧ Kd.R k47 47 w' w.heap.size (fun _ => True) v2_ r3 ∧ Below w.heap.size w w' := by
 have hu30 := Tryd.underlying30
 have hu47 := Tryd.underlying47
 have HR0 := aa hr0
 have HC0 := aa hc0
 clear hr0 hc0
 have HB := aa (Below.refl w.heap.size w)
 have H : ((impl_zCode.f k l0 a1).bind fun t102 => (if t102 = 0 then ((impl_find.f k l0 a1).bind fun bt103 => ((impl_isData.f a2).bind fun t105 => (if t105 = true then (if bt103.2 = true then (if 0 ≤ bt103.1 then (if bt103.1 < (l0.length : Int) then ((impl_isVersion.f a3 ((rd_T47 l0 bt103.1).f0) ((rd_T47 l0 bt103.1).f1) ((rd_T47 l0 bt103.1).f2) ((rd_T47 l0 bt103.1).f3) ((rd_T47 l0 bt103.1).f4)).bind fun t107 => (if t107 = true then (if ((rd_T47 l0 bt103.1).f2) = 999 then (some (2, (⟨#[]⟩ : ByteArray), ([] : List (S47)))) else ((slices_Clone_impl_Znode_impl_Znode.f l0).bind fun t109 => (if bt103.1 < (t109.length : Int) then ((some (t109.set (bt103.1 : Int).toNat (⟨(rd_T47 t109 bt103.1).f0, a2, (rd_T47 t109 bt103.1).f2, (rd_T47 t109 bt103.1).f3, (rd_T47 t109 bt103.1).f4⟩ : S47) : List (S47))).bind fun y112 => (some (0, (⟨#[]⟩ : ByteArray), (y112.set (bt103.1 : Int).toNat (⟨(rd_T47 y112 bt103.1).f0, (rd_T47 y112 bt103.1).f1, wrap64 (((rd_T47 y112 bt103.1).f2) + 1), (rd_T47 y112 bt103.1).f3, (rd_T47 y112 bt103.1).f4⟩ : S47))))) else (none)))) else (some (7, (⟨#[]⟩ : ByteArray), ([] : List (S47)))))) else (none)) else (none)) else (some (4, (⟨#[]⟩ : ByteArray), ([] : List (S47))))) else (some (3, (⟨#[]⟩ : ByteArray), ([] : List (S47))))))) else (some (t102, (⟨#[]⟩ : ByteArray), ([] : List (S47)))))) = some (r1, r2, r3) := h
 clear h
 replace H := Option.bind_eq_some_iff.mp H
 obtain ⟨t102, A50, H⟩ := H
 replace H : (if t102 = 0 then ((impl_find.f k l0 a1).bind fun bt103 => ((impl_isData.f a2).bind fun t105 => (if t105 = true then (if bt103.2 = true then (if 0 ≤ bt103.1 then (if bt103.1 < (l0.length : Int) then ((impl_isVersion.f a3 ((rd_T47 l0 bt103.1).f0) ((rd_T47 l0 bt103.1).f1) ((rd_T47 l0 bt103.1).f2) ((rd_T47 l0 bt103.1).f3) ((rd_T47 l0 bt103.1).f4)).bind fun t107 => (if t107 = true then (if ((rd_T47 l0 bt103.1).f2) = 999 then (some (2, (⟨#[]⟩ : ByteArray), ([] : List (S47)))) else ((slices_Clone_impl_Znode_impl_Znode.f l0).bind fun t109 => (if bt103.1 < (t109.length : Int) then ((some (t109.set (bt103.1 : Int).toNat (⟨(rd_T47 t109 bt103.1).f0, a2, (rd_T47 t109 bt103.1).f2, (rd_T47 t109 bt103.1).f3, (rd_T47 t109 bt103.1).f4⟩ : S47) : List (S47))).bind fun y112 => (some (0, (⟨#[]⟩ : ByteArray), (y112.set (bt103.1 : Int).toNat (⟨(rd_T47 y112 bt103.1).f0, (rd_T47 y112 bt103.1).f1, wrap64 (((rd_T47 y112 bt103.1).f2) + 1), (rd_T47 y112 bt103.1).f3, (rd_T47 y112 bt103.1).f4⟩ : S47))))) else (none)))) else (some (7, (⟨#[]⟩ : ByteArray), ([] : List (S47)))))) else (none)) else (none)) else (some (4, (⟨#[]⟩ : ByteArray), ([] : List (S47))))) else (some (3, (⟨#[]⟩ : ByteArray), ([] : List (S47))))))) else (some (t102, (⟨#[]⟩ : ByteArray), ([] : List (S47))))) = some (r1, r2, r3) := H
 have A5 := aa A50
 clear A50
 by_cases c6 : t102 = 0
 ·
  rw [if_pos c6] at H
  have c6b0 : (t102 == 0) = true := beq_iff_eq.mpr c6
  have c6b1 : (t102 != 0) = false := bne_eq_false_iff_eq.mpr c6
  clear c6
  replace H := Option.bind_eq_some_iff.mp H
  obtain ⟨⟨t103, t104⟩, A70, H⟩ := H
  replace H : ((impl_isData.f a2).bind fun t105 => (if t105 = true then (if t104 = true then (if 0 ≤ t103 then (if t103 < (l0.length : Int) then ((impl_isVersion.f a3 ((rd_T47 l0 t103).f0) ((rd_T47 l0 t103).f1) ((rd_T47 l0 t103).f2) ((rd_T47 l0 t103).f3) ((rd_T47 l0 t103).f4)).bind fun t107 => (if t107 = true then (if ((rd_T47 l0 t103).f2) = 999 then (some (2, (⟨#[]⟩ : ByteArray), ([] : List (S47)))) else ((slices_Clone_impl_Znode_impl_Znode.f l0).bind fun t109 => (if t103 < (t109.length : Int) then ((some (t109.set (t103 : Int).toNat (⟨(rd_T47 t109 t103).f0, a2, (rd_T47 t109 t103).f2, (rd_T47 t109 t103).f3, (rd_T47 t109 t103).f4⟩ : S47) : List (S47))).bind fun y112 => (some (0, (⟨#[]⟩ : ByteArray), (y112.set (t103 : Int).toNat (⟨(rd_T47 y112 t103).f0, (rd_T47 y112 t103).f1, wrap64 (((rd_T47 y112 t103).f2) + 1), (rd_T47 y112 t103).f3, (rd_T47 y112 t103).f4⟩ : S47))))) else (none)))) else (some (7, (⟨#[]⟩ : ByteArray), ([] : List (S47)))))) else (none)) else (none)) else (some (4, (⟨#[]⟩ : ByteArray), ([] : List (S47))))) else (some (3, (⟨#[]⟩ : ByteArray), ([] : List (S47)))))) = some (r1, r2, r3) := H
  have A7 := aa A70
  clear A70
  replace H := Option.bind_eq_some_iff.mp H
  obtain ⟨t105, A80, H⟩ := H
  replace H : (if t105 = true then (if t104 = true then (if 0 ≤ t103 then (if t103 < (l0.length : Int) then ((impl_isVersion.f a3 ((rd_T47 l0 t103).f0) ((rd_T47 l0 t103).f1) ((rd_T47 l0 t103).f2) ((rd_T47 l0 t103).f3) ((rd_T47 l0 t103).f4)).bind fun t107 => (if t107 = true then (if ((rd_T47 l0 t103).f2) = 999 then (some (2, (⟨#[]⟩ : ByteArray), ([] : List (S47)))) else ((slices_Clone_impl_Znode_impl_Znode.f l0).bind fun t109 => (if t103 < (t109.length : Int) then ((some (t109.set (t103 : Int).toNat (⟨(rd_T47 t109 t103).f0, a2, (rd_T47 t109 t103).f2, (rd_T47 t109 t103).f3, (rd_T47 t109 t103).f4⟩ : S47) : List (S47))).bind fun y112 => (some (0, (⟨#[]⟩ : ByteArray), (y112.set (t103 : Int).toNat (⟨(rd_T47 y112 t103).f0, (rd_T47 y112 t103).f1, wrap64 (((rd_T47 y112 t103).f2) + 1), (rd_T47 y112 t103).f3, (rd_T47 y112 t103).f4⟩ : S47))))) else (none)))) else (some (7, (⟨#[]⟩ : ByteArray), ([] : List (S47)))))) else (none)) else (none)) else (some (4, (⟨#[]⟩ : ByteArray), ([] : List (S47))))) else (some (3, (⟨#[]⟩ : ByteArray), ([] : List (S47))))) = some (r1, r2, r3) := H
  have A8 := aa A80
  clear A80
  by_cases c9 : t105 = true
  ·
   subst c9
   have H1 : (if t104 = true then (if 0 ≤ t103 then (if t103 < (l0.length : Int) then ((impl_isVersion.f a3 ((rd_T47 l0 t103).f0) ((rd_T47 l0 t103).f1) ((rd_T47 l0 t103).f2) ((rd_T47 l0 t103).f3) ((rd_T47 l0 t103).f4)).bind fun t107 => (if t107 = true then (if ((rd_T47 l0 t103).f2) = 999 then (some (2, (⟨#[]⟩ : ByteArray), ([] : List (S47)))) else ((slices_Clone_impl_Znode_impl_Znode.f l0).bind fun t109 => (if t103 < (t109.length : Int) then ((some (t109.set (t103 : Int).toNat (⟨(rd_T47 t109 t103).f0, a2, (rd_T47 t109 t103).f2, (rd_T47 t109 t103).f3, (rd_T47 t109 t103).f4⟩ : S47) : List (S47))).bind fun y112 => (some (0, (⟨#[]⟩ : ByteArray), (y112.set (t103 : Int).toNat (⟨(rd_T47 y112 t103).f0, (rd_T47 y112 t103).f1, wrap64 (((rd_T47 y112 t103).f2) + 1), (rd_T47 y112 t103).f3, (rd_T47 y112 t103).f4⟩ : S47))))) else (none)))) else (some (7, (⟨#[]⟩ : ByteArray), ([] : List (S47)))))) else (none)) else (none)) else (some (4, (⟨#[]⟩ : ByteArray), ([] : List (S47))))) = some (r1, r2, r3) := by rw [if_pos rfl] at H; exact H
   clear H
   have H := H1
   clear H1
   by_cases c10 : t104 = true
   ·
    subst c10
    have H1 : (if 0 ≤ t103 then (if t103 < (l0.length : Int) then ((impl_isVersion.f a3 ((rd_T47 l0 t103).f0) ((rd_T47 l0 t103).f1) ((rd_T47 l0 t103).f2) ((rd_T47 l0 t103).f3) ((rd_T47 l0 t103).f4)).bind fun t107 => (if t107 = true then (if ((rd_T47 l0 t103).f2) = 999 then (some (2, (⟨#[]⟩ : ByteArray), ([] : List (S47)))) else ((slices_Clone_impl_Znode_impl_Znode.f l0).bind fun t109 => (if t103 < (t109.length : Int) then ((some (t109.set (t103 : Int).toNat (⟨(rd_T47 t109 t103).f0, a2, (rd_T47 t109 t103).f2, (rd_T47 t109 t103).f3, (rd_T47 t109 t103).f4⟩ : S47) : List (S47))).bind fun y112 => (some (0, (⟨#[]⟩ : ByteArray), (y112.set (t103 : Int).toNat (⟨(rd_T47 y112 t103).f0, (rd_T47 y112 t103).f1, wrap64 (((rd_T47 y112 t103).f2) + 1), (rd_T47 y112 t103).f3, (rd_T47 y112 t103).f4⟩ : S47))))) else (none)))) else (some (7, (⟨#[]⟩ : ByteArray), ([] : List (S47)))))) else (none)) else (none)) = some (r1, r2, r3) := by rw [if_pos rfl] at H; exact H
    clear H
    have H := H1
    clear H1
    by_cases c11 : 0 ≤ t103
    ·
     rw [if_pos c11] at H
     have c11b0 : decide (0 ≤ t103) = true := decide_eq_true c11
     clear c11
     by_cases c12 : t103 < (l0.length : Int)
     ·
      rw [if_pos c12] at H
      have c12b0 : decide (t103 < (l0.length : Int)) = true := decide_eq_true c12
      clear c12
      replace H := Option.bind_eq_some_iff.mp H
      obtain ⟨t107, A130, H⟩ := H
      replace H : (if t107 = true then (if ((rd_T47 l0 t103).f2) = 999 then (some (2, (⟨#[]⟩ : ByteArray), ([] : List (S47)))) else ((slices_Clone_impl_Znode_impl_Znode.f l0).bind fun t109 => (if t103 < (t109.length : Int) then ((some (t109.set (t103 : Int).toNat (⟨(rd_T47 t109 t103).f0, a2, (rd_T47 t109 t103).f2, (rd_T47 t109 t103).f3, (rd_T47 t109 t103).f4⟩ : S47) : List (S47))).bind fun y112 => (some (0, (⟨#[]⟩ : ByteArray), (y112.set (t103 : Int).toNat (⟨(rd_T47 y112 t103).f0, (rd_T47 y112 t103).f1, wrap64 (((rd_T47 y112 t103).f2) + 1), (rd_T47 y112 t103).f3, (rd_T47 y112 t103).f4⟩ : S47))))) else (none)))) else (some (7, (⟨#[]⟩ : ByteArray), ([] : List (S47))))) = some (r1, r2, r3) := H
      have A13 := aa A130
      clear A130
      by_cases c14 : t107 = true
      ·
       subst c14
       have H1 : (if ((rd_T47 l0 t103).f2) = 999 then (some (2, (⟨#[]⟩ : ByteArray), ([] : List (S47)))) else ((slices_Clone_impl_Znode_impl_Znode.f l0).bind fun t109 => (if t103 < (t109.length : Int) then ((some (t109.set (t103 : Int).toNat (⟨(rd_T47 t109 t103).f0, a2, (rd_T47 t109 t103).f2, (rd_T47 t109 t103).f3, (rd_T47 t109 t103).f4⟩ : S47) : List (S47))).bind fun y112 => (some (0, (⟨#[]⟩ : ByteArray), (y112.set (t103 : Int).toNat (⟨(rd_T47 y112 t103).f0, (rd_T47 y112 t103).f1, wrap64 (((rd_T47 y112 t103).f2) + 1), (rd_T47 y112 t103).f3, (rd_T47 y112 t103).f4⟩ : S47))))) else (none)))) = some (r1, r2, r3) := by rw [if_pos rfl] at H; exact H
       clear H
       have H := H1
       clear H1
       by_cases c15 : ((rd_T47 l0 t103).f2) = 999
       ·
        rw [if_pos c15] at H
        have c15b0 : (((rd_T47 l0 t103).f2) == 999) = true := beq_iff_eq.mpr c15
        have c15b1 : (((rd_T47 l0 t103).f2) != 999) = false := bne_eq_false_iff_eq.mpr c15
        clear c15
        simp only [Option.some.injEq, Prod.mk.injEq] at H
        obtain ⟨rfl, rfl, rfl⟩ := H
        go_enter Tryd.func24, Tryd.ntmps24
        go_wp2_with (first | ((with_reducible refine gate_dst (N := 8) rfl ?_); refine box_event ?hg (N := 8) ?hd (cs := #[.int .i64 0, .string (⟨#[]⟩ : ByteArray), .slice none 0 0]) (t := 30) ?hr ?_; (case hd => rfl); (case hg => rfl); (case hr => exact zhlgcp); intro gb101 hg w16 hbox hb; have n0_ := aa (below_step zjjbob hb); have n1_ := aa (hbox); have n2_ := aa ((zkpfjp : w.heap.size ≤ gb101)); have n3_ := aa ((zkpfjp : w.heap.size ≤ gb101)); clear HB; have HB := n0_; have BK101 := n1_; have GW101 := n2_; have GE101 := n3_; clear n0_ n1_ n2_ n3_; clear hb hbox hg) | ((with_reducible refine gate_callee (f := 35) rfl ?_); refine goesL_ (some 15) rfl rfl Tryd.func35 (by kernel_rfl) rfl #[.slice A0 l0.length c0, .string a1] rfl zjnmae ?_; (with_reducible refine (impl_zCode.calls k _ _ l0 a1 t102 _ ?side1 ?side2 A5.out).mono ?_); (case side1 => exact zfmbgg); (case side2 => exact HC0.out); rintro e w17 ⟨rfl, hb⟩; refine ⟨_, rfl, ?_⟩; have n0_ := aa (blk_below (g := gb101) (o := .cells #[.int .i64 0, .string (⟨#[]⟩ : ByteArray), .slice none 0 0] 30 (0, 0)) (zkjhpm BK101.out) hb); have n1_ := aa (below_step zkmbdh hb); clear BK101; clear HB; have BK101 := n0_; have HB := n1_; clear n0_ n1_; (try clear hb); (try clear hb2); (try clear hk); (try clear hi)) | ((with_reducible refine gate_callee (f := 29) rfl ?_); refine goesL_ (some 23) rfl rfl Tryd.func29 (by kernel_rfl) rfl #[.slice A0 l0.length c0, .string a1] rfl zjnmae ?_; (with_reducible refine (impl_find.calls k _ _ l0 a1 t103 true _ ?side1 ?side2 A7.out).mono ?_); (case side1 => exact zfmbgg); (case side2 => exact HC0.out); rintro e w18 ⟨rfl, hb⟩; refine ⟨_, rfl, ?_⟩; have n0_ := aa (blk_below (g := gb101) (o := .cells #[.int .i64 0, .string (⟨#[]⟩ : ByteArray), .slice none 0 0] 30 (0, 0)) (zkjhpm BK101.out) hb); have n1_ := aa (below_step zkmbdh hb); clear BK101; clear HB; have BK101 := n0_; have HB := n1_; clear n0_ n1_; (try clear hb); (try clear hb2); (try clear hk); (try clear hi)) | ((with_reducible refine gate_callee (f := 44) rfl ?_); refine goesL_ (some 28) rfl rfl Tryd.func44 (by kernel_rfl) rfl #[.int .i64 a2] rfl zjnmae ?_; (with_reducible refine (impl_isData.calls a2 true _ A8.out).mono ?_); rintro e w' ⟨rfl, ⟨nd, rfl⟩⟩; refine ⟨_, rfl, ?_⟩; (try (rw [drewN_self w18]; generalize hq_ : World.drewN w18 _ = w18; have n0_ : Aside0 (w18.heap[gb101]? = some (.cells #[.int .i64 0, .string (⟨#[]⟩ : ByteArray), .slice none 0 0] 30 (0, 0))) := ⟨by rw [← hq_]; exact (zkjhpm BK101.out)⟩; have n1_ : Aside0 (Below w.heap.size w w18) := ⟨by rw [← hq_]; exact zkmbdh⟩; clear BK101 HB hq_; have BK101 := n0_; have HB := n1_; clear n0_ n1_)); have p106 : 0 ≤ (t103 : Int) := of_decide_eq_true zgglam; have q106 : t103 < (l0.length : Int) := of_decide_eq_true zgglam; obtain ⟨ad106, e106, hx106_0, hx106_1, hx106_2, hx106_3, hx106_4⟩ := at_T47 HR0.out t103 p106 q106; cases e106; replace hx106_0 := pb HB.out hx106_0; replace hx106_1 := pb HB.out hx106_1; replace hx106_2 := pb HB.out hx106_2; replace hx106_3 := pb HB.out hx106_3; replace hx106_4 := pb HB.out hx106_4; replace p106 := eq_true p106; replace q106 := eq_true q106) | ((with_reducible refine gate_callee (f := 45) rfl ?_); refine goesL_ (some 41) rfl rfl Tryd.func45 (by kernel_rfl) rfl #[.int .i64 a3, .agg #[.string ((rd_T47 l0 t103).f0), .int .i64 ((rd_T47 l0 t103).f1), .int .i64 ((rd_T47 l0 t103).f2), .int .i64 ((rd_T47 l0 t103).f3), .int .i64 ((rd_T47 l0 t103).f4)]] rfl zjnmae ?_; (with_reducible refine (impl_isVersion.calls a3 ((rd_T47 l0 t103).f0) ((rd_T47 l0 t103).f1) ((rd_T47 l0 t103).f2) ((rd_T47 l0 t103).f3) ((rd_T47 l0 t103).f4) true _ A13.out).mono ?_); rintro e w19 ⟨rfl, hb⟩; refine ⟨_, rfl, ?_⟩; have n0_ := aa (blk_below (g := gb101) (o := .cells #[.int .i64 0, .string (⟨#[]⟩ : ByteArray), .slice none 0 0] 30 (0, 0)) (zkjhpm BK101.out) hb); have n1_ := aa (below_step zkmbdh hb); clear BK101; clear HB; have BK101 := n0_; have HB := n1_; clear n0_ n1_; (try clear hb); (try clear hb2); (try clear hk); (try clear hi); have p108 : 0 ≤ (t103 : Int) := of_decide_eq_true zgglam; have q108 : t103 < (l0.length : Int) := of_decide_eq_true zgglam; obtain ⟨ad108, e108, hx108_0, hx108_1, hx108_2, hx108_3, hx108_4⟩ := at_T47 HR0.out t103 p108 q108; obtain rfl : ad106 = ad108 := (by injection e108); replace hx108_0 := pb HB.out hx108_0; replace hx108_1 := pb HB.out hx108_1; replace hx108_2 := pb HB.out hx108_2; replace hx108_3 := pb HB.out hx108_3; replace hx108_4 := pb HB.out hx108_4; replace p108 := eq_true p108; replace q108 := eq_true q108; have hcz20_0 : w19.cell? ⟨gb101, 0, none⟩ = some (.int .i64 0) := (blk_cell BK101.out 0).trans rfl; have hcz20_1 : w19.cell? ⟨gb101, 1, none⟩ = some (.string (⟨#[]⟩ : ByteArray)) := (blk_cell BK101.out 1).trans rfl; have hcz20_2 : w19.cell? ⟨gb101, 2, none⟩ = some (.slice none 0 0) := (blk_cell BK101.out 2).trans rfl; have hfz20_0 := blk_frozen BK101.out 0; have hfz20_1 := blk_frozen BK101.out 1; have hfz20_2 := blk_frozen BK101.out 2))
        refine bodyPost_ret (results_cell_row rfl _ _ gb101 30 #[.int .i64 2, .string (⟨#[]⟩ : ByteArray), .slice none 0 0] (0, 0) _ rfl (by (with_reducible repeat (first | refine blk_drewN ?_ _ | refine blk_drew ?_ | refine blk_alloc ?_ _)); refine blk_put (cs := #[.int .i64 2, .string (⟨#[]⟩ : ByteArray), .slice none 0 0]) ?_ 2 _ rfl; (with_reducible repeat (first | refine blk_drewN ?_ _ | refine blk_drew ?_ | refine blk_alloc ?_ _)); refine blk_put (cs := #[.int .i64 2, .string (⟨#[]⟩ : ByteArray), .slice none 0 0]) ?_ 1 _ rfl; (with_reducible repeat (first | refine blk_drewN ?_ _ | refine blk_drew ?_ | refine blk_alloc ?_ _)); refine blk_put (cs := #[.int .i64 0, .string (⟨#[]⟩ : ByteArray), .slice none 0 0]) ?_ 0 _ rfl; (with_reducible repeat (first | refine blk_drewN ?_ _ | refine blk_drew ?_ | refine blk_alloc ?_ _)); exact BK101.out) Tryd.underlying30 rfl (by kernel_rfl)) rfl ?_
        exact ⟨_, by first | rfl | (simp [errW_none, errW_some] <;> rfl) | (simp [*, errW_none, errW_some] <;> rfl), by first | exact Kd.R_nil _ _ _ _ _ | exact Kd.N_nil _ _ _ _ _ | exact Kd.V_nil _ _ _ _ _ | exact Kd.Q_nil _ _ _ _ _ | exact Kd.S_nil _ _ _ _ _, by repeat (first | (with_reducible first | exact HB.out | apply below_alloc | apply pw_below_drewN | apply below_drew1 | refine below_set ?_ GE101.out) | exact HB.out)⟩
       ·
        rw [if_neg c15] at H
        have c15b0 : (((rd_T47 l0 t103).f2) == 999) = false := beq_eq_false_iff_ne.mpr c15
        have c15b1 : (((rd_T47 l0 t103).f2) != 999) = true := bne_iff_ne.mpr c15
        replace H := Option.bind_eq_some_iff.mp H
        obtain ⟨t109, A210, H⟩ := H
        replace H : (if t103 < (t109.length : Int) then ((some (t109.set (t103 : Int).toNat (⟨(rd_T47 t109 t103).f0, a2, (rd_T47 t109 t103).f2, (rd_T47 t109 t103).f3, (rd_T47 t109 t103).f4⟩ : S47) : List (S47))).bind fun y112 => (some (0, (⟨#[]⟩ : ByteArray), (y112.set (t103 : Int).toNat (⟨(rd_T47 y112 t103).f0, (rd_T47 y112 t103).f1, wrap64 (((rd_T47 y112 t103).f2) + 1), (rd_T47 y112 t103).f3, (rd_T47 y112 t103).f4⟩ : S47))))) else (none)) = some (r1, r2, r3) := H
        have A21 := aa A210
        clear A210
        by_cases c22 : t103 < (t109.length : Int)
        ·
         rw [if_pos c22] at H
         have c22b0 : decide (t103 < (t109.length : Int)) = true := decide_eq_true c22
         clear c22
         obtain ⟨y112, hy112⟩ : ∃ y_ : List (S47), y_ = (t109.set (t103 : Int).toNat (⟨(rd_T47 t109 t103).f0, a2, (rd_T47 t109 t103).f2, (rd_T47 t109 t103).f3, (rd_T47 t109 t103).f4⟩ : S47)) := ⟨_, rfl⟩
         replace H : (some (0, (⟨#[]⟩ : ByteArray), (y112.set (t103 : Int).toNat (⟨(rd_T47 y112 t103).f0, (rd_T47 y112 t103).f1, wrap64 (((rd_T47 y112 t103).f2) + 1), (rd_T47 y112 t103).f3, (rd_T47 y112 t103).f4⟩ : S47)))) = some (r1, r2, r3) := by first | (rw [hy112]; with_reducible exact H) | (have H2_ := (Option.bind_some _ _).symm.trans H; rw [hy112]; with_reducible exact H2_) | (have H2_ := (Option.bind_some _ _).symm.trans H; with_reducible exact H2_) | with_reducible exact H | (rw [hy112]; exact H) | exact H
         have Ny112 := aa hy112
         clear hy112
         obtain ⟨y114, hy114⟩ : ∃ y_ : List (S47), y_ = (y112.set (t103 : Int).toNat (⟨(rd_T47 y112 t103).f0, (rd_T47 y112 t103).f1, wrap64 (((rd_T47 y112 t103).f2) + 1), (rd_T47 y112 t103).f3, (rd_T47 y112 t103).f4⟩ : S47)) := ⟨_, rfl⟩
         replace H : (some (0, (⟨#[]⟩ : ByteArray), y114)) = some (r1, r2, r3) := by first | (rw [hy114]; with_reducible exact H) | (have H2_ := (Option.bind_some _ _).symm.trans H; rw [hy114]; with_reducible exact H2_) | (have H2_ := (Option.bind_some _ _).symm.trans H; with_reducible exact H2_) | with_reducible exact H | (rw [hy114]; exact H) | exact H
         have Ny114 := aa hy114
         clear hy114
         simp only [Option.some.injEq, Prod.mk.injEq] at H
         obtain ⟨rfl, rfl, rfl⟩ := H
         go_enter Tryd.func24, Tryd.ntmps24
         go_wp2_with (first | ((with_reducible refine gate_dst (N := 8) rfl ?_); refine box_event ?hg (N := 8) ?hd (cs := #[.int .i64 0, .string (⟨#[]⟩ : ByteArray), .slice none 0 0]) (t := 30) ?hr ?_; (case hd => rfl); (case hg => rfl); (case hr => exact zhlgcp); intro gb101 hg w25 hbox hb; have n0_ := aa (below_step zjjbob hb); have n1_ := aa (hbox); have n2_ := aa ((zkpfjp : w.heap.size ≤ gb101)); have n3_ := aa ((zkpfjp : w.heap.size ≤ gb101)); clear HB; have HB := n0_; have BK101 := n1_; have GW101 := n2_; have GE101 := n3_; clear n0_ n1_ n2_ n3_; clear hb hbox hg) | ((with_reducible refine gate_callee (f := 35) rfl ?_); refine goesL_ (some 15) rfl rfl Tryd.func35 (by kernel_rfl) rfl #[.slice A0 l0.length c0, .string a1] rfl zjnmae ?_; (with_reducible refine (impl_zCode.calls k _ _ l0 a1 t102 _ ?side1 ?side2 A5.out).mono ?_); (case side1 => exact zfmbgg); (case side2 => exact HC0.out); rintro e w26 ⟨rfl, hb⟩; refine ⟨_, rfl, ?_⟩; have n0_ := aa (blk_below (g := gb101) (o := .cells #[.int .i64 0, .string (⟨#[]⟩ : ByteArray), .slice none 0 0] 30 (0, 0)) (zkjhpm BK101.out) hb); have n1_ := aa (below_step zkmbdh hb); clear BK101; clear HB; have BK101 := n0_; have HB := n1_; clear n0_ n1_; (try clear hb); (try clear hb2); (try clear hk); (try clear hi)) | ((with_reducible refine gate_callee (f := 29) rfl ?_); refine goesL_ (some 23) rfl rfl Tryd.func29 (by kernel_rfl) rfl #[.slice A0 l0.length c0, .string a1] rfl zjnmae ?_; (with_reducible refine (impl_find.calls k _ _ l0 a1 t103 true _ ?side1 ?side2 A7.out).mono ?_); (case side1 => exact zfmbgg); (case side2 => exact HC0.out); rintro e w27 ⟨rfl, hb⟩; refine ⟨_, rfl, ?_⟩; have n0_ := aa (blk_below (g := gb101) (o := .cells #[.int .i64 0, .string (⟨#[]⟩ : ByteArray), .slice none 0 0] 30 (0, 0)) (zkjhpm BK101.out) hb); have n1_ := aa (below_step zkmbdh hb); clear BK101; clear HB; have BK101 := n0_; have HB := n1_; clear n0_ n1_; (try clear hb); (try clear hb2); (try clear hk); (try clear hi)) | ((with_reducible refine gate_callee (f := 44) rfl ?_); refine goesL_ (some 28) rfl rfl Tryd.func44 (by kernel_rfl) rfl #[.int .i64 a2] rfl zjnmae ?_; (with_reducible refine (impl_isData.calls a2 true _ A8.out).mono ?_); rintro e w' ⟨rfl, ⟨nd, rfl⟩⟩; refine ⟨_, rfl, ?_⟩; (try (rw [drewN_self w27]; generalize hq_ : World.drewN w27 _ = w27; have n0_ : Aside0 (w27.heap[gb101]? = some (.cells #[.int .i64 0, .string (⟨#[]⟩ : ByteArray), .slice none 0 0] 30 (0, 0))) := ⟨by rw [← hq_]; exact (zkjhpm BK101.out)⟩; have n1_ : Aside0 (Below w.heap.size w w27) := ⟨by rw [← hq_]; exact zkmbdh⟩; clear BK101 HB hq_; have BK101 := n0_; have HB := n1_; clear n0_ n1_)); have p106 : 0 ≤ (t103 : Int) := of_decide_eq_true zgglam; have q106 : t103 < (l0.length : Int) := of_decide_eq_true zgglam; obtain ⟨ad106, e106, hx106_0, hx106_1, hx106_2, hx106_3, hx106_4⟩ := at_T47 HR0.out t103 p106 q106; cases e106; replace hx106_0 := pb HB.out hx106_0; replace hx106_1 := pb HB.out hx106_1; replace hx106_2 := pb HB.out hx106_2; replace hx106_3 := pb HB.out hx106_3; replace hx106_4 := pb HB.out hx106_4; replace p106 := eq_true p106; replace q106 := eq_true q106) | ((with_reducible refine gate_callee (f := 45) rfl ?_); refine goesL_ (some 41) rfl rfl Tryd.func45 (by kernel_rfl) rfl #[.int .i64 a3, .agg #[.string ((rd_T47 l0 t103).f0), .int .i64 ((rd_T47 l0 t103).f1), .int .i64 ((rd_T47 l0 t103).f2), .int .i64 ((rd_T47 l0 t103).f3), .int .i64 ((rd_T47 l0 t103).f4)]] rfl zjnmae ?_; (with_reducible refine (impl_isVersion.calls a3 ((rd_T47 l0 t103).f0) ((rd_T47 l0 t103).f1) ((rd_T47 l0 t103).f2) ((rd_T47 l0 t103).f3) ((rd_T47 l0 t103).f4) true _ A13.out).mono ?_); rintro e w28 ⟨rfl, hb⟩; refine ⟨_, rfl, ?_⟩; have n0_ := aa (blk_below (g := gb101) (o := .cells #[.int .i64 0, .string (⟨#[]⟩ : ByteArray), .slice none 0 0] 30 (0, 0)) (zkjhpm BK101.out) hb); have n1_ := aa (below_step zkmbdh hb); clear BK101; clear HB; have BK101 := n0_; have HB := n1_; clear n0_ n1_; (try clear hb); (try clear hb2); (try clear hk); (try clear hi); have p108 : 0 ≤ (t103 : Int) := of_decide_eq_true zgglam; have q108 : t103 < (l0.length : Int) := of_decide_eq_true zgglam; obtain ⟨ad108, e108, hx108_0, hx108_1, hx108_2, hx108_3, hx108_4⟩ := at_T47 HR0.out t103 p108 q108; obtain rfl : ad106 = ad108 := (by injection e108); replace hx108_0 := pb HB.out hx108_0; replace hx108_1 := pb HB.out hx108_1; replace hx108_2 := pb HB.out hx108_2; replace hx108_3 := pb HB.out hx108_3; replace hx108_4 := pb HB.out hx108_4; replace p108 := eq_true p108; replace q108 := eq_true q108) | ((with_reducible refine gate_callee (f := 46) rfl ?_); refine goesL_ (some 53) rfl rfl Tryd.func46 (by kernel_rfl) rfl #[.slice (some ad106) l0.length c0] rfl zjnmae ?_; (with_reducible refine (slices_Clone_impl_Znode_impl_Znode.calls _ _ l0 t109 _ ?side1 ?side2 A21.out).mono ?_); (case side1 => exact zfmbgg); (case side2 => exact HC0.out); rintro e w29 ⟨v110, rfl, ho0, hb⟩; refine ⟨_, rfl, ?_⟩; have n0_ := aa (Kd.R_lower ho0 (below_size zkmbdh)); have n1_ := aa (blk_below (g := gb101) (o := .cells #[.int .i64 0, .string (⟨#[]⟩ : ByteArray), .slice none 0 0] 30 (0, 0)) (zkjhpm BK101.out) hb); have n2_ := aa (below_step zkmbdh hb); clear BK101; clear HB; have HO111 := n0_; have BK101 := n1_; have HB := n2_; clear n0_ n1_ n2_; (try clear hb); (try clear hb2); (try clear hk); (try clear hi); (try clear ho0); have p23 : 0 ≤ (t103 : Int) := of_decide_eq_true zgglam; have q23 : (t103 : Int) < ((t109.length : Int) : Int) := of_decide_eq_true zgglam; obtain ⟨go23, co23, eo23, gb23, gl23, cl23, HG23⟩ := Kd.R_form HO111.out (by omega); (first | cases eo23 | (injection eo23 with ea_ en_ ec_; (first | subst ea_ | (injection ea_ with ea_; subst ea_)); subst ec_; clear en_)); have GB23 := aa gb23; have GG23 := aa HG23; clear gb23 gl23 HG23; obtain ⟨ce23, hcl23, hM23, hcc23, hfr23⟩ := Kd.R_elem HO111.out z47 (t103 : Int) p23 q23; obtain rfl := k47_openM hM23; have hx23_0 : w29.cell? ⟨go23, (t103 : Int).toNat * 5, none⟩ = some (.string ((rd_T47 t109 t103).f0)) := hcc23 0 _ rfl; have hx23_1 : w29.cell? ⟨go23, (t103 : Int).toNat * 5 + 1, none⟩ = some (.int .i64 ((rd_T47 t109 t103).f1)) := hcc23 1 _ rfl; have hx23_2 : w29.cell? ⟨go23, (t103 : Int).toNat * 5 + 2, none⟩ = some (.int .i64 ((rd_T47 t109 t103).f2)) := hcc23 2 _ rfl; have hx23_3 : w29.cell? ⟨go23, (t103 : Int).toNat * 5 + 3, none⟩ = some (.int .i64 ((rd_T47 t109 t103).f3)) := hcc23 3 _ rfl; have hx23_4 : w29.cell? ⟨go23, (t103 : Int).toNat * 5 + 4, none⟩ = some (.int .i64 ((rd_T47 t109 t103).f4)) := hcc23 4 _ rfl; have hf23_0 : w29.frozen? ⟨go23, (t103 : Int).toNat * 5, none⟩ = false := hfr23 0; have hf23_1 : w29.frozen? ⟨go23, (t103 : Int).toNat * 5 + 1, none⟩ = false := hfr23 1; have hf23_2 : w29.frozen? ⟨go23, (t103 : Int).toNat * 5 + 2, none⟩ = false := hfr23 2; have hf23_3 : w29.frozen? ⟨go23, (t103 : Int).toNat * 5 + 3, none⟩ = false := hfr23 3; have hf23_4 : w29.frozen? ⟨go23, (t103 : Int).toNat * 5 + 4, none⟩ = false := hfr23 4; clear hcl23 hcc23 hfr23 hM23; replace p23 := eq_true p23; replace q23 := eq_true q23; have HX30 := aa (show Kd.R k47 47 w29 w.heap.size (fun _ => True) (.slice (some ⟨go23, 0, none⟩) t109.length co23) t109 from (zcaken HO111.out)); obtain ⟨ce30, hcl30, hM30, hcc30, hfr30⟩ := Kd.R_elem HX30.out z47 (t103 : Int) (of_decide_eq_true zgglam) (by have h_ : (t103 : Int) < ((t109.length : Int) : Int) := of_decide_eq_true zgglam; first | exact h_ | (have e_ := (Kd.R_reads' HO111.out).1; omega) | simpa using h_); obtain rfl := k47_openM hM30; have HP30 := Kd.R_seg HX30.out (t103 : Int) (of_decide_eq_true zgglam) (by have h_ : (t103 : Int) < ((t109.length : Int) : Int) := of_decide_eq_true zgglam; first | exact h_ | (have e_ := (Kd.R_reads' HO111.out).1; omega) | simpa using h_) (seg := [.int .i64 a2]) (j := 1) hcl30 hcc30 (show 2 ≤ 5 from by decide) (x' := (⟨(rd_T47 t109 t103).f0, a2, (rd_T47 t109 t103).f2, (rd_T47 t109 t103).f3, (rd_T47 t109 t103).f4⟩ : S47)) (k47_mkM _ _ _ (⟨(rd_T47 t109 t103).f0, a2, (rd_T47 t109 t103).f2, (rd_T47 t109 t103).f3, (rd_T47 t109 t103).f4⟩ : S47) ) (fun _ hk => hk); have hx30_1 := hcc30 1 _ rfl; (try simp only [show (k47).sz = 5 from rfl, Nat.mul_one, Nat.add_zero] at hx30_1); have hf30_1 := hfr30 1; (try simp only [show (k47).sz = 5 from rfl, Nat.mul_one, Nat.add_zero] at hf30_1); clear hcl30 hcc30 hfr30 hM30) | ((with_reducible refine gate_store (t := 2) (p := 58) rfl ?_); refine store_event (t := 2) (p := 58) (v := ?vo_w31) (w1 := (w29.setCell ⟨go23, (t103 : Int).toNat * 5 + 1, none⟩ (.int .i64 a2))) ?hg ?ho ?hn ?hr ?_; (case ho => rfl); (case hg => rfl); (case hn => rfl); (case hr => exact zhlgcp); intro w31 hw; have hg : w29.grownBy w31 (some go23) := (by rw [hw]; exact HP30.2); have hp_ : Kd.R k47 47 w31 w.heap.size (fun _ => True) (.slice (some ⟨go23, 0, none⟩) t109.length co23) y112 := (by rw [hw, Ny112.out]; exact HP30.1); clear HP30; have n0_ := aa (blk_grown (g := gb101) (o := .cells #[.int .i64 0, .string (⟨#[]⟩ : ByteArray), .slice none 0 0] 30 (0, 0)) (zkjhpm BK101.out) hg (Kd.R_ne HO111.out BK101.out (by decide))); have n1_ := aa (hp_); have n2_ := aa ((by rw [hw]; exact below_set (HB.out) GB23.out : Below w.heap.size w w31)); clear BK101; clear HO111; clear HB; have BK101 := n0_; have HO111 := n1_; have HB := n2_; clear n0_ n1_ n2_; clear hg hw hp_; have p113 : 0 ≤ (t103 : Int) := of_decide_eq_true zgglam; have q113 : t103 < (y112.length : Int) := (by have h_ : (t103 : Int) < ((t109.length : Int) : Int) := of_decide_eq_true zgglam; first | (have e_ := (Kd.R_reads' HO111.out).1; omega) | simpa only [Ny112.out, List.length_set] using h_); have ql113 : ((t103 : Int) < ((t109.length : Int) : Int)) = True := eq_true (of_decide_eq_true zgglam); obtain ⟨ad113, e113, hx113_0, hx113_1, hx113_2, hx113_3, hx113_4⟩ := at_T47 (Kd.R_reads' HO111.out).2.2 t103 p113 q113; obtain rfl : (⟨go23, 0, none⟩ : Addr) = ad113 := (by injection e113); (first | simp only [add_plain] at hx113_0 | simp only [add_at] at hx113_0 | simp only [Addr.add, Nat.zero_add] at hx113_0 | skip); (first | simp only [add_plain] at hx113_1 | simp only [add_at] at hx113_1 | simp only [Addr.add, Nat.zero_add] at hx113_1 | skip); (first | simp only [add_plain] at hx113_2 | simp only [add_at] at hx113_2 | simp only [Addr.add, Nat.zero_add] at hx113_2 | skip); (first | simp only [add_plain] at hx113_3 | simp only [add_at] at hx113_3 | simp only [Addr.add, Nat.zero_add] at hx113_3 | skip); (first | simp only [add_plain] at hx113_4 | simp only [add_at] at hx113_4 | simp only [Addr.add, Nat.zero_add] at hx113_4 | skip); replace p113 := eq_true p113; replace q113 := eq_true q113; have p24 : 0 ≤ (t103 : Int) := of_decide_eq_true zgglam; have q24 : (t103 : Int) < ((t109.length : Int) : Int) := of_decide_eq_true zgglam; obtain ⟨ce24, hcl24, hM24, hcc24, hfr24⟩ := Kd.R_elem HO111.out z47 (t103 : Int) p24 q24; obtain rfl := k47_openM hM24; have hx24_0 : w31.cell? ⟨go23, (t103 : Int).toNat * 5, none⟩ = some (.string ((rd_T47 y112 t103).f0)) := hcc24 0 _ rfl; have hx24_1 : w31.cell? ⟨go23, (t103 : Int).toNat * 5 + 1, none⟩ = some (.int .i64 ((rd_T47 y112 t103).f1)) := hcc24 1 _ rfl; have hx24_2 : w31.cell? ⟨go23, (t103 : Int).toNat * 5 + 2, none⟩ = some (.int .i64 ((rd_T47 y112 t103).f2)) := hcc24 2 _ rfl; have hx24_3 : w31.cell? ⟨go23, (t103 : Int).toNat * 5 + 3, none⟩ = some (.int .i64 ((rd_T47 y112 t103).f3)) := hcc24 3 _ rfl; have hx24_4 : w31.cell? ⟨go23, (t103 : Int).toNat * 5 + 4, none⟩ = some (.int .i64 ((rd_T47 y112 t103).f4)) := hcc24 4 _ rfl; have hf24_0 : w31.frozen? ⟨go23, (t103 : Int).toNat * 5, none⟩ = false := hfr24 0; have hf24_1 : w31.frozen? ⟨go23, (t103 : Int).toNat * 5 + 1, none⟩ = false := hfr24 1; have hf24_2 : w31.frozen? ⟨go23, (t103 : Int).toNat * 5 + 2, none⟩ = false := hfr24 2; have hf24_3 : w31.frozen? ⟨go23, (t103 : Int).toNat * 5 + 3, none⟩ = false := hfr24 3; have hf24_4 : w31.frozen? ⟨go23, (t103 : Int).toNat * 5 + 4, none⟩ = false := hfr24 4; clear hcl24 hcc24 hfr24 hM24; replace p24 := eq_true p24; replace q24 := eq_true q24; have HX32 := aa (show Kd.R k47 47 w31 w.heap.size (fun _ => True) (.slice (some ⟨go23, 0, none⟩) t109.length co23) y112 from (zcaken HO111.out)); obtain ⟨ce32, hcl32, hM32, hcc32, hfr32⟩ := Kd.R_elem HX32.out z47 (t103 : Int) (of_decide_eq_true zgglam) (by have h_ : (t103 : Int) < ((t109.length : Int) : Int) := of_decide_eq_true zgglam; first | exact h_ | (have e_ := (Kd.R_reads' HO111.out).1; omega) | simpa using h_); obtain rfl := k47_openM hM32; have HP32 := Kd.R_seg HX32.out (t103 : Int) (of_decide_eq_true zgglam) (by have h_ : (t103 : Int) < ((t109.length : Int) : Int) := of_decide_eq_true zgglam; first | exact h_ | (have e_ := (Kd.R_reads' HO111.out).1; omega) | simpa using h_) (seg := [.int .i64 (wrap64 (((rd_T47 y112 t103).f2) + 1))]) (j := 2) hcl32 hcc32 (show 3 ≤ 5 from by decide) (x' := (⟨(rd_T47 y112 t103).f0, (rd_T47 y112 t103).f1, wrap64 (((rd_T47 y112 t103).f2) + 1), (rd_T47 y112 t103).f3, (rd_T47 y112 t103).f4⟩ : S47)) (k47_mkM _ _ _ (⟨(rd_T47 y112 t103).f0, (rd_T47 y112 t103).f1, wrap64 (((rd_T47 y112 t103).f2) + 1), (rd_T47 y112 t103).f3, (rd_T47 y112 t103).f4⟩ : S47) ) (fun _ hk => hk); have hx32_2 := hcc32 2 _ rfl; (try simp only [show (k47).sz = 5 from rfl, Nat.mul_one, Nat.add_zero] at hx32_2); have hf32_2 := hfr32 2; (try simp only [show (k47).sz = 5 from rfl, Nat.mul_one, Nat.add_zero] at hf32_2); clear hcl32 hcc32 hfr32 hM32) | ((with_reducible refine gate_store (t := 2) (p := 66) rfl ?_); refine store_event (t := 2) (p := 66) (v := ?vo_w33) (w1 := (w31.setCell ⟨go23, (t103 : Int).toNat * 5 + 2, none⟩ (.int .i64 (wrap64 (((rd_T47 y112 t103).f2) + 1))))) ?hg ?ho ?hn ?hr ?_; (case ho => rfl); (case hg => rfl); (case hn => rfl); (case hr => exact zhlgcp); intro w33 hw; have hg : w31.grownBy w33 (some go23) := (by rw [hw]; exact HP32.2); have hp_ : Kd.R k47 47 w33 w.heap.size (fun _ => True) (.slice (some ⟨go23, 0, none⟩) t109.length co23) y114 := (by rw [hw, Ny114.out]; exact HP32.1); clear HP32; have n0_ := aa (blk_grown (g := gb101) (o := .cells #[.int .i64 0, .string (⟨#[]⟩ : ByteArray), .slice none 0 0] 30 (0, 0)) (zkjhpm BK101.out) hg (Kd.R_ne HO111.out BK101.out (by decide))); have n1_ := aa (hp_); have n2_ := aa ((by rw [hw]; exact below_set (HB.out) GB23.out : Below w.heap.size w w33)); clear BK101; clear HO111; clear HB; have BK101 := n0_; have HO111 := n1_; have HB := n2_; clear n0_ n1_ n2_; clear hg hw hp_; have hcz34_0 : w33.cell? ⟨gb101, 0, none⟩ = some (.int .i64 0) := (blk_cell BK101.out 0).trans rfl; have hcz34_1 : w33.cell? ⟨gb101, 1, none⟩ = some (.string (⟨#[]⟩ : ByteArray)) := (blk_cell BK101.out 1).trans rfl; have hcz34_2 : w33.cell? ⟨gb101, 2, none⟩ = some (.slice none 0 0) := (blk_cell BK101.out 2).trans rfl; have hfz34_0 := blk_frozen BK101.out 0; have hfz34_1 := blk_frozen BK101.out 1; have hfz34_2 := blk_frozen BK101.out 2))
         refine bodyPost_ret (results_cell_row rfl _ _ gb101 30 #[.int .i64 0, .string (⟨#[]⟩ : ByteArray), .slice (some ⟨go23, 0, none⟩) t109.length co23] (0, 0) _ rfl zkhiid Tryd.underlying30 rfl (by kernel_rfl)) rfl ?_
         exact ⟨_, by first | rfl | (simp [errW_none, errW_some] <;> rfl) | (simp [*, errW_none, errW_some] <;> rfl), by (with_reducible repeat (first | apply Kd.R_alloc | apply Kd.R_drewN | apply Kd.R_drew)); exact Kd.R_mono (Kd.R_far (p := ⟨gb101, 2, none⟩) (Kd.R_far (p := ⟨gb101, 1, none⟩) (Kd.R_far (p := ⟨gb101, 0, none⟩) (Kd.R_types HO111.out BK101.out (by decide)) (fun _ hk => hk.2) (.int .i64 0)) (fun _ hk => hk.2) (.string (⟨#[]⟩ : ByteArray))) (fun _ hk => hk.2) (.slice (some ⟨go23, 0, none⟩) t109.length co23)) (fun _ hk => trivial), by repeat (first | (with_reducible first | exact HB.out | apply below_alloc | apply pw_below_drewN | apply below_drew1 | refine below_set ?_ GE101.out) | exact HB.out)⟩
        ·
         rw [if_neg c22] at H
         exact absurd H (by simp)
      ·
       replace c14 := Bool.eq_false_iff.mpr c14
       subst c14
       have H1 : (some (7, (⟨#[]⟩ : ByteArray), ([] : List (S47)))) = some (r1, r2, r3) := by rw [if_neg (show ¬ (false = true) by decide)] at H; exact H
       clear H
       have H := H1
       clear H1
       simp only [Option.some.injEq, Prod.mk.injEq] at H
       obtain ⟨rfl, rfl, rfl⟩ := H
       go_enter Tryd.func24, Tryd.ntmps24
       go_wp2_with (first | ((with_reducible refine gate_dst (N := 8) rfl ?_); refine box_event ?hg (N := 8) ?hd (cs := #[.int .i64 0, .string (⟨#[]⟩ : ByteArray), .slice none 0 0]) (t := 30) ?hr ?_; (case hd => rfl); (case hg => rfl); (case hr => exact zhlgcp); intro gb101 hg w35 hbox hb; have n0_ := aa (below_step zjjbob hb); have n1_ := aa (hbox); have n2_ := aa ((zkpfjp : w.heap.size ≤ gb101)); have n3_ := aa ((zkpfjp : w.heap.size ≤ gb101)); clear HB; have HB := n0_; have BK101 := n1_; have GW101 := n2_; have GE101 := n3_; clear n0_ n1_ n2_ n3_; clear hb hbox hg) | ((with_reducible refine gate_callee (f := 35) rfl ?_); refine goesL_ (some 15) rfl rfl Tryd.func35 (by kernel_rfl) rfl #[.slice A0 l0.length c0, .string a1] rfl zjnmae ?_; (with_reducible refine (impl_zCode.calls k _ _ l0 a1 t102 _ ?side1 ?side2 A5.out).mono ?_); (case side1 => exact zfmbgg); (case side2 => exact HC0.out); rintro e w36 ⟨rfl, hb⟩; refine ⟨_, rfl, ?_⟩; have n0_ := aa (blk_below (g := gb101) (o := .cells #[.int .i64 0, .string (⟨#[]⟩ : ByteArray), .slice none 0 0] 30 (0, 0)) (zkjhpm BK101.out) hb); have n1_ := aa (below_step zkmbdh hb); clear BK101; clear HB; have BK101 := n0_; have HB := n1_; clear n0_ n1_; (try clear hb); (try clear hb2); (try clear hk); (try clear hi)) | ((with_reducible refine gate_callee (f := 29) rfl ?_); refine goesL_ (some 23) rfl rfl Tryd.func29 (by kernel_rfl) rfl #[.slice A0 l0.length c0, .string a1] rfl zjnmae ?_; (with_reducible refine (impl_find.calls k _ _ l0 a1 t103 true _ ?side1 ?side2 A7.out).mono ?_); (case side1 => exact zfmbgg); (case side2 => exact HC0.out); rintro e w37 ⟨rfl, hb⟩; refine ⟨_, rfl, ?_⟩; have n0_ := aa (blk_below (g := gb101) (o := .cells #[.int .i64 0, .string (⟨#[]⟩ : ByteArray), .slice none 0 0] 30 (0, 0)) (zkjhpm BK101.out) hb); have n1_ := aa (below_step zkmbdh hb); clear BK101; clear HB; have BK101 := n0_; have HB := n1_; clear n0_ n1_; (try clear hb); (try clear hb2); (try clear hk); (try clear hi)) | ((with_reducible refine gate_callee (f := 44) rfl ?_); refine goesL_ (some 28) rfl rfl Tryd.func44 (by kernel_rfl) rfl #[.int .i64 a2] rfl zjnmae ?_; (with_reducible refine (impl_isData.calls a2 true _ A8.out).mono ?_); rintro e w' ⟨rfl, ⟨nd, rfl⟩⟩; refine ⟨_, rfl, ?_⟩; (try (rw [drewN_self w37]; generalize hq_ : World.drewN w37 _ = w37; have n0_ : Aside0 (w37.heap[gb101]? = some (.cells #[.int .i64 0, .string (⟨#[]⟩ : ByteArray), .slice none 0 0] 30 (0, 0))) := ⟨by rw [← hq_]; exact (zkjhpm BK101.out)⟩; have n1_ : Aside0 (Below w.heap.size w w37) := ⟨by rw [← hq_]; exact zkmbdh⟩; clear BK101 HB hq_; have BK101 := n0_; have HB := n1_; clear n0_ n1_)); have p106 : 0 ≤ (t103 : Int) := of_decide_eq_true zgglam; have q106 : t103 < (l0.length : Int) := of_decide_eq_true zgglam; obtain ⟨ad106, e106, hx106_0, hx106_1, hx106_2, hx106_3, hx106_4⟩ := at_T47 HR0.out t103 p106 q106; cases e106; replace hx106_0 := pb HB.out hx106_0; replace hx106_1 := pb HB.out hx106_1; replace hx106_2 := pb HB.out hx106_2; replace hx106_3 := pb HB.out hx106_3; replace hx106_4 := pb HB.out hx106_4; replace p106 := eq_true p106; replace q106 := eq_true q106) | ((with_reducible refine gate_callee (f := 45) rfl ?_); refine goesL_ (some 41) rfl rfl Tryd.func45 (by kernel_rfl) rfl #[.int .i64 a3, .agg #[.string ((rd_T47 l0 t103).f0), .int .i64 ((rd_T47 l0 t103).f1), .int .i64 ((rd_T47 l0 t103).f2), .int .i64 ((rd_T47 l0 t103).f3), .int .i64 ((rd_T47 l0 t103).f4)]] rfl zjnmae ?_; (with_reducible refine (impl_isVersion.calls a3 ((rd_T47 l0 t103).f0) ((rd_T47 l0 t103).f1) ((rd_T47 l0 t103).f2) ((rd_T47 l0 t103).f3) ((rd_T47 l0 t103).f4) false _ A13.out).mono ?_); rintro e w38 ⟨rfl, hb⟩; refine ⟨_, rfl, ?_⟩; have n0_ := aa (blk_below (g := gb101) (o := .cells #[.int .i64 0, .string (⟨#[]⟩ : ByteArray), .slice none 0 0] 30 (0, 0)) (zkjhpm BK101.out) hb); have n1_ := aa (below_step zkmbdh hb); clear BK101; clear HB; have BK101 := n0_; have HB := n1_; clear n0_ n1_; (try clear hb); (try clear hb2); (try clear hk); (try clear hi); have hcz39_0 : w38.cell? ⟨gb101, 0, none⟩ = some (.int .i64 0) := (blk_cell BK101.out 0).trans rfl; have hcz39_1 : w38.cell? ⟨gb101, 1, none⟩ = some (.string (⟨#[]⟩ : ByteArray)) := (blk_cell BK101.out 1).trans rfl; have hcz39_2 : w38.cell? ⟨gb101, 2, none⟩ = some (.slice none 0 0) := (blk_cell BK101.out 2).trans rfl; have hfz39_0 := blk_frozen BK101.out 0; have hfz39_1 := blk_frozen BK101.out 1; have hfz39_2 := blk_frozen BK101.out 2))
       refine bodyPost_ret (results_cell_row rfl _ _ gb101 30 #[.int .i64 7, .string (⟨#[]⟩ : ByteArray), .slice none 0 0] (0, 0) _ rfl (by (with_reducible repeat (first | refine blk_drewN ?_ _ | refine blk_drew ?_ | refine blk_alloc ?_ _)); refine blk_put (cs := #[.int .i64 7, .string (⟨#[]⟩ : ByteArray), .slice none 0 0]) ?_ 2 _ rfl; (with_reducible repeat (first | refine blk_drewN ?_ _ | refine blk_drew ?_ | refine blk_alloc ?_ _)); refine blk_put (cs := #[.int .i64 7, .string (⟨#[]⟩ : ByteArray), .slice none 0 0]) ?_ 1 _ rfl; (with_reducible repeat (first | refine blk_drewN ?_ _ | refine blk_drew ?_ | refine blk_alloc ?_ _)); refine blk_put (cs := #[.int .i64 0, .string (⟨#[]⟩ : ByteArray), .slice none 0 0]) ?_ 0 _ rfl; (with_reducible repeat (first | refine blk_drewN ?_ _ | refine blk_drew ?_ | refine blk_alloc ?_ _)); exact BK101.out) Tryd.underlying30 rfl (by kernel_rfl)) rfl ?_
       exact ⟨_, by first | rfl | (simp [errW_none, errW_some] <;> rfl) | (simp [*, errW_none, errW_some] <;> rfl), by first | exact Kd.R_nil _ _ _ _ _ | exact Kd.N_nil _ _ _ _ _ | exact Kd.V_nil _ _ _ _ _ | exact Kd.Q_nil _ _ _ _ _ | exact Kd.S_nil _ _ _ _ _, by repeat (first | (with_reducible first | exact HB.out | apply below_alloc | apply pw_below_drewN | apply below_drew1 | refine below_set ?_ GE101.out) | exact HB.out)⟩
     ·
      rw [if_neg c12] at H
      exact absurd H (by simp)
    ·
     rw [if_neg c11] at H
     exact absurd H (by simp)
   ·
    replace c10 := Bool.eq_false_iff.mpr c10
    subst c10
    have H1 : (some (4, (⟨#[]⟩ : ByteArray), ([] : List (S47)))) = some (r1, r2, r3) := by rw [if_neg (show ¬ (false = true) by decide)] at H; exact H
    clear H
    have H := H1
    clear H1
    simp only [Option.some.injEq, Prod.mk.injEq] at H
    obtain ⟨rfl, rfl, rfl⟩ := H
    go_enter Tryd.func24, Tryd.ntmps24
    go_wp2_with (first | ((with_reducible refine gate_dst (N := 8) rfl ?_); refine box_event ?hg (N := 8) ?hd (cs := #[.int .i64 0, .string (⟨#[]⟩ : ByteArray), .slice none 0 0]) (t := 30) ?hr ?_; (case hd => rfl); (case hg => rfl); (case hr => exact zhlgcp); intro gb101 hg w40 hbox hb; have n0_ := aa (below_step zjjbob hb); have n1_ := aa (hbox); have n2_ := aa ((zkpfjp : w.heap.size ≤ gb101)); have n3_ := aa ((zkpfjp : w.heap.size ≤ gb101)); clear HB; have HB := n0_; have BK101 := n1_; have GW101 := n2_; have GE101 := n3_; clear n0_ n1_ n2_ n3_; clear hb hbox hg) | ((with_reducible refine gate_callee (f := 35) rfl ?_); refine goesL_ (some 15) rfl rfl Tryd.func35 (by kernel_rfl) rfl #[.slice A0 l0.length c0, .string a1] rfl zjnmae ?_; (with_reducible refine (impl_zCode.calls k _ _ l0 a1 t102 _ ?side1 ?side2 A5.out).mono ?_); (case side1 => exact zfmbgg); (case side2 => exact HC0.out); rintro e w41 ⟨rfl, hb⟩; refine ⟨_, rfl, ?_⟩; have n0_ := aa (blk_below (g := gb101) (o := .cells #[.int .i64 0, .string (⟨#[]⟩ : ByteArray), .slice none 0 0] 30 (0, 0)) (zkjhpm BK101.out) hb); have n1_ := aa (below_step zkmbdh hb); clear BK101; clear HB; have BK101 := n0_; have HB := n1_; clear n0_ n1_; (try clear hb); (try clear hb2); (try clear hk); (try clear hi)) | ((with_reducible refine gate_callee (f := 29) rfl ?_); refine goesL_ (some 23) rfl rfl Tryd.func29 (by kernel_rfl) rfl #[.slice A0 l0.length c0, .string a1] rfl zjnmae ?_; (with_reducible refine (impl_find.calls k _ _ l0 a1 t103 false _ ?side1 ?side2 A7.out).mono ?_); (case side1 => exact zfmbgg); (case side2 => exact HC0.out); rintro e w42 ⟨rfl, hb⟩; refine ⟨_, rfl, ?_⟩; have n0_ := aa (blk_below (g := gb101) (o := .cells #[.int .i64 0, .string (⟨#[]⟩ : ByteArray), .slice none 0 0] 30 (0, 0)) (zkjhpm BK101.out) hb); have n1_ := aa (below_step zkmbdh hb); clear BK101; clear HB; have BK101 := n0_; have HB := n1_; clear n0_ n1_; (try clear hb); (try clear hb2); (try clear hk); (try clear hi)) | ((with_reducible refine gate_callee (f := 44) rfl ?_); refine goesL_ (some 28) rfl rfl Tryd.func44 (by kernel_rfl) rfl #[.int .i64 a2] rfl zjnmae ?_; (with_reducible refine (impl_isData.calls a2 true _ A8.out).mono ?_); rintro e w' ⟨rfl, ⟨nd, rfl⟩⟩; refine ⟨_, rfl, ?_⟩; (try (rw [drewN_self w42]; generalize hq_ : World.drewN w42 _ = w42; have n0_ : Aside0 (w42.heap[gb101]? = some (.cells #[.int .i64 0, .string (⟨#[]⟩ : ByteArray), .slice none 0 0] 30 (0, 0))) := ⟨by rw [← hq_]; exact (zkjhpm BK101.out)⟩; have n1_ : Aside0 (Below w.heap.size w w42) := ⟨by rw [← hq_]; exact zkmbdh⟩; clear BK101 HB hq_; have BK101 := n0_; have HB := n1_; clear n0_ n1_)); have hcz43_0 : w42.cell? ⟨gb101, 0, none⟩ = some (.int .i64 0) := (blk_cell BK101.out 0).trans rfl; have hcz43_1 : w42.cell? ⟨gb101, 1, none⟩ = some (.string (⟨#[]⟩ : ByteArray)) := (blk_cell BK101.out 1).trans rfl; have hcz43_2 : w42.cell? ⟨gb101, 2, none⟩ = some (.slice none 0 0) := (blk_cell BK101.out 2).trans rfl; have hfz43_0 := blk_frozen BK101.out 0; have hfz43_1 := blk_frozen BK101.out 1; have hfz43_2 := blk_frozen BK101.out 2))
    refine bodyPost_ret (results_cell_row rfl _ _ gb101 30 #[.int .i64 4, .string (⟨#[]⟩ : ByteArray), .slice none 0 0] (0, 0) _ rfl zcgheb Tryd.underlying30 rfl (by kernel_rfl)) rfl ?_
    exact ⟨_, by first | rfl | (simp [errW_none, errW_some] <;> rfl) | (simp [*, errW_none, errW_some] <;> rfl), by first | exact Kd.R_nil _ _ _ _ _ | exact Kd.N_nil _ _ _ _ _ | exact Kd.V_nil _ _ _ _ _ | exact Kd.Q_nil _ _ _ _ _ | exact Kd.S_nil _ _ _ _ _, by repeat (first | (with_reducible first | exact HB.out | apply below_alloc | apply pw_below_drewN | apply below_drew1 | refine below_set ?_ GE101.out) | exact HB.out)⟩
  ·
   replace c9 := Bool.eq_false_iff.mpr c9
   subst c9
   have H1 : (some (3, (⟨#[]⟩ : ByteArray), ([] : List (S47)))) = some (r1, r2, r3) := by rw [if_neg (show ¬ (false = true) by decide)] at H; exact H
   clear H
   have H := H1
   clear H1
   simp only [Option.some.injEq, Prod.mk.injEq] at H
   obtain ⟨rfl, rfl, rfl⟩ := H
   go_enter Tryd.func24, Tryd.ntmps24
   go_wp2_with (first | ((with_reducible refine gate_dst (N := 8) rfl ?_); refine box_event ?hg (N := 8) ?hd (cs := #[.int .i64 0, .string (⟨#[]⟩ : ByteArray), .slice none 0 0]) (t := 30) ?hr ?_; (case hd => rfl); (case hg => rfl); (case hr => exact zhlgcp); intro gb101 hg w44 hbox hb; have n0_ := aa (below_step zjjbob hb); have n1_ := aa (hbox); have n2_ := aa ((zkpfjp : w.heap.size ≤ gb101)); have n3_ := aa ((zkpfjp : w.heap.size ≤ gb101)); clear HB; have HB := n0_; have BK101 := n1_; have GW101 := n2_; have GE101 := n3_; clear n0_ n1_ n2_ n3_; clear hb hbox hg) | ((with_reducible refine gate_callee (f := 35) rfl ?_); refine goesL_ (some 15) rfl rfl Tryd.func35 (by kernel_rfl) rfl #[.slice A0 l0.length c0, .string a1] rfl zjnmae ?_; (with_reducible refine (impl_zCode.calls k _ _ l0 a1 t102 _ ?side1 ?side2 A5.out).mono ?_); (case side1 => exact zfmbgg); (case side2 => exact HC0.out); rintro e w45 ⟨rfl, hb⟩; refine ⟨_, rfl, ?_⟩; have n0_ := aa (blk_below (g := gb101) (o := .cells #[.int .i64 0, .string (⟨#[]⟩ : ByteArray), .slice none 0 0] 30 (0, 0)) (zkjhpm BK101.out) hb); have n1_ := aa (below_step zkmbdh hb); clear BK101; clear HB; have BK101 := n0_; have HB := n1_; clear n0_ n1_; (try clear hb); (try clear hb2); (try clear hk); (try clear hi)) | ((with_reducible refine gate_callee (f := 29) rfl ?_); refine goesL_ (some 23) rfl rfl Tryd.func29 (by kernel_rfl) rfl #[.slice A0 l0.length c0, .string a1] rfl zjnmae ?_; (with_reducible refine (impl_find.calls k _ _ l0 a1 t103 t104 _ ?side1 ?side2 A7.out).mono ?_); (case side1 => exact zfmbgg); (case side2 => exact HC0.out); rintro e w46 ⟨rfl, hb⟩; refine ⟨_, rfl, ?_⟩; have n0_ := aa (blk_below (g := gb101) (o := .cells #[.int .i64 0, .string (⟨#[]⟩ : ByteArray), .slice none 0 0] 30 (0, 0)) (zkjhpm BK101.out) hb); have n1_ := aa (below_step zkmbdh hb); clear BK101; clear HB; have BK101 := n0_; have HB := n1_; clear n0_ n1_; (try clear hb); (try clear hb2); (try clear hk); (try clear hi)) | ((with_reducible refine gate_callee (f := 44) rfl ?_); refine goesL_ (some 28) rfl rfl Tryd.func44 (by kernel_rfl) rfl #[.int .i64 a2] rfl zjnmae ?_; (with_reducible refine (impl_isData.calls a2 false _ A8.out).mono ?_); rintro e w' ⟨rfl, ⟨nd, rfl⟩⟩; refine ⟨_, rfl, ?_⟩; (try (rw [drewN_self w46]; generalize hq_ : World.drewN w46 _ = w46; have n0_ : Aside0 (w46.heap[gb101]? = some (.cells #[.int .i64 0, .string (⟨#[]⟩ : ByteArray), .slice none 0 0] 30 (0, 0))) := ⟨by rw [← hq_]; exact (zkjhpm BK101.out)⟩; have n1_ : Aside0 (Below w.heap.size w w46) := ⟨by rw [← hq_]; exact zkmbdh⟩; clear BK101 HB hq_; have BK101 := n0_; have HB := n1_; clear n0_ n1_)); have hcz47_0 : w46.cell? ⟨gb101, 0, none⟩ = some (.int .i64 0) := (blk_cell BK101.out 0).trans rfl; have hcz47_1 : w46.cell? ⟨gb101, 1, none⟩ = some (.string (⟨#[]⟩ : ByteArray)) := (blk_cell BK101.out 1).trans rfl; have hcz47_2 : w46.cell? ⟨gb101, 2, none⟩ = some (.slice none 0 0) := (blk_cell BK101.out 2).trans rfl; have hfz47_0 := blk_frozen BK101.out 0; have hfz47_1 := blk_frozen BK101.out 1; have hfz47_2 := blk_frozen BK101.out 2))
   refine bodyPost_ret (results_cell_row rfl _ _ gb101 30 #[.int .i64 3, .string (⟨#[]⟩ : ByteArray), .slice none 0 0] (0, 0) _ rfl (by (with_reducible repeat (first | refine blk_drewN ?_ _ | refine blk_drew ?_ | refine blk_alloc ?_ _)); refine blk_put (cs := #[.int .i64 3, .string (⟨#[]⟩ : ByteArray), .slice none 0 0]) ?_ 2 _ rfl; (with_reducible repeat (first | refine blk_drewN ?_ _ | refine blk_drew ?_ | refine blk_alloc ?_ _)); refine blk_put (cs := #[.int .i64 3, .string (⟨#[]⟩ : ByteArray), .slice none 0 0]) ?_ 1 _ rfl; (with_reducible repeat (first | refine blk_drewN ?_ _ | refine blk_drew ?_ | refine blk_alloc ?_ _)); refine blk_put (cs := #[.int .i64 0, .string (⟨#[]⟩ : ByteArray), .slice none 0 0]) ?_ 0 _ rfl; (with_reducible repeat (first | refine blk_drewN ?_ _ | refine blk_drew ?_ | refine blk_alloc ?_ _)); exact BK101.out) Tryd.underlying30 rfl (by kernel_rfl)) rfl ?_
   exact ⟨_, by first | rfl | (simp [errW_none, errW_some] <;> rfl) | (simp [*, errW_none, errW_some] <;> rfl), by first | exact Kd.R_nil _ _ _ _ _ | exact Kd.N_nil _ _ _ _ _ | exact Kd.V_nil _ _ _ _ _ | exact Kd.Q_nil _ _ _ _ _ | exact Kd.S_nil _ _ _ _ _, by repeat (first | (with_reducible first | exact HB.out | apply below_alloc | apply pw_below_drewN | apply below_drew1 | refine below_set ?_ GE101.out) | exact HB.out)⟩
 ·
  rw [if_neg c6] at H
  have c6b0 : (t102 == 0) = false := beq_eq_false_iff_ne.mpr c6
  have c6b1 : (t102 != 0) = true := bne_iff_ne.mpr c6
  simp only [Option.some.injEq, Prod.mk.injEq] at H
  obtain ⟨rfl, rfl, rfl⟩ := H
  go_enter Tryd.func24, Tryd.ntmps24
  go_wp2_with (first | ((with_reducible refine gate_dst (N := 8) rfl ?_); refine box_event ?hg (N := 8) ?hd (cs := #[.int .i64 0, .string (⟨#[]⟩ : ByteArray), .slice none 0 0]) (t := 30) ?hr ?_; (case hd => rfl); (case hg => rfl); (case hr => exact zhlgcp); intro gb101 hg w48 hbox hb; have n0_ := aa (below_step zjjbob hb); have n1_ := aa (hbox); have n2_ := aa ((zkpfjp : w.heap.size ≤ gb101)); have n3_ := aa ((zkpfjp : w.heap.size ≤ gb101)); clear HB; have HB := n0_; have BK101 := n1_; have GW101 := n2_; have GE101 := n3_; clear n0_ n1_ n2_ n3_; clear hb hbox hg) | ((with_reducible refine gate_callee (f := 35) rfl ?_); refine goesL_ (some 15) rfl rfl Tryd.func35 (by kernel_rfl) rfl #[.slice A0 l0.length c0, .string a1] rfl zjnmae ?_; (with_reducible refine (impl_zCode.calls k _ _ l0 a1 t102 _ ?side1 ?side2 A5.out).mono ?_); (case side1 => exact zfmbgg); (case side2 => exact HC0.out); rintro e w49 ⟨rfl, hb⟩; refine ⟨_, rfl, ?_⟩; have n0_ := aa (blk_below (g := gb101) (o := .cells #[.int .i64 0, .string (⟨#[]⟩ : ByteArray), .slice none 0 0] 30 (0, 0)) (zkjhpm BK101.out) hb); have n1_ := aa (below_step zkmbdh hb); clear BK101; clear HB; have BK101 := n0_; have HB := n1_; clear n0_ n1_; (try clear hb); (try clear hb2); (try clear hk); (try clear hi); have hcz50_0 : w49.cell? ⟨gb101, 0, none⟩ = some (.int .i64 0) := (blk_cell BK101.out 0).trans rfl; have hcz50_1 : w49.cell? ⟨gb101, 1, none⟩ = some (.string (⟨#[]⟩ : ByteArray)) := (blk_cell BK101.out 1).trans rfl; have hcz50_2 : w49.cell? ⟨gb101, 2, none⟩ = some (.slice none 0 0) := (blk_cell BK101.out 2).trans rfl; have hfz50_0 := blk_frozen BK101.out 0; have hfz50_1 := blk_frozen BK101.out 1; have hfz50_2 := blk_frozen BK101.out 2))
  refine bodyPost_ret (results_cell_row rfl _ _ gb101 30 #[.int .i64 t102, .string (⟨#[]⟩ : ByteArray), .slice none 0 0] (0, 0) _ rfl zpdnbb Tryd.underlying30 rfl (by kernel_rfl)) rfl ?_
  exact ⟨_, by first | rfl | (simp [errW_none, errW_some] <;> rfl) | (simp [*, errW_none, errW_some] <;> rfl), by first | exact Kd.R_nil _ _ _ _ _ | exact Kd.N_nil _ _ _ _ _ | exact Kd.V_nil _ _ _ _ _ | exact Kd.Q_nil _ _ _ _ _ | exact Kd.S_nil _ _ _ _ _, by repeat (first | (with_reducible first | exact HB.out | apply below_alloc | apply pw_below_drewN | apply below_drew1 | refine below_set ?_ GE101.out) | exact HB.out)⟩

end Go.Proofs.YtdemicncljgccaaDoor.Qa

-- By gp.py (wip/gen of the work's repo), a program of this workplace over the kit's print: Lean checks it.
namespace Go.Proofs.YtdemicncljgccaaDoor.Qa
open Go.RowKit Go.Proofs.YtdemicncljgccaaDoorW.PrintWords Go.Proofs.YtdemicncljgccaaDoorW.PrintLast Go.Proofs.YtdemicncljgccaaDoorW.PrintMore
attribute [local go_sem] max2_int min2_int max_two min_two max_three min_three max_four min_four   -- for this text's walks alone
set_option linter.unusedVariables false
set_option linter.unusedSimpArgs false
set_option maxHeartbeats 8000000
set_option maxRecDepth 100000

/-! ### laws_FnExactSetZ: function 6 -/
mutual
def laws_FnExactSetZ.j0 : Nat → List (S46) → ByteArray → Int → Int → Option (Bool)
 | 0, _, _, _, _ => none
 | k + 1, x0, x1, x2, x3 => (laws_szZnodeS.f k x0 1048576).bind fun t101 => (if t101 < 0 then (some true) else (laws_FnExactSetZ.j1 k x0 x1 x2 x3))
def laws_FnExactSetZ.j1 : Nat → List (S46) → ByteArray → Int → Int → Option (Bool)
 | 0, _, _, _, _ => none
 | k + 1, x0, x1, x2, x3 => (laws_toZnodeS.f k x0).bind fun t102 => ((spec_SetZ.f k t102 x1 x2 x3).bind fun bt105 => ((laws_toZnodeS.f k x0).bind fun t111 => ((impl_SetZ.f k t111 x1 x2 x3).bind fun bt114 => ((laws_eqZResult.f k bt114.1 bt114.2.1 bt114.2.2 bt105.1 bt105.2.1 bt105.2.2).bind fun t120 => (if t120 = true then (laws_FnExactSetZ.j2 k x0 x1 x2 x3 t111 bt105.1 bt105.2.1 bt105.2.2 bt114.1 bt114.2.1 bt114.2.2) else (some false))))))
def laws_FnExactSetZ.j2 : Nat → List (S46) → ByteArray → Int → Int → List (S47) → Int → ByteArray → List (S47) → Int → ByteArray → List (S47) → Option (Bool)
 | 0, _, _, _, _, _, _, _, _, _, _, _ => none
 | k + 1, x0, x1, x2, x3, x11, x111000, x111001, x111002, x120000, x120001, x120002 => (laws_toZnodeS.f k x0).bind fun t121 => ((laws_eqZnodeS.f k x11 t121).bind fun t124 => (if t124 = true then (laws_FnExactSetZ.j3 k x0 x1 x2 x3 x11 x111000 x111001 x111002 x120000 x120001 x120002) else (some false)))
def laws_FnExactSetZ.j3 : Nat → List (S46) → ByteArray → Int → Int → List (S47) → Int → ByteArray → List (S47) → Int → ByteArray → List (S47) → Option (Bool)
 | 0, _, _, _, _, _, _, _, _, _, _, _ => none
 | k + 1, x0, x1, x2, x3, x11, x111000, x111001, x111002, x120000, x120001, x120002 => (laws_markZnodeS.f k x11 1).bind fun bt125 => (if bt125.1 < 0 then (laws_FnExactSetZ.j4 k x0 x1 x2 x3 true x111000 x111001 x111002 x120000 x120001 x120002) else ((laws_eqZResult.f k x120000 x120001 x120002 x111000 x111001 x111002).bind fun t127 => (laws_FnExactSetZ.j4 k x0 x1 x2 x3 (!t127) x111000 x111001 x111002 x120000 x120001 x120002)))
def laws_FnExactSetZ.j4 : Nat → List (S46) → ByteArray → Int → Int → Bool → Int → ByteArray → List (S47) → Int → ByteArray → List (S47) → Option (Bool)
 | 0, _, _, _, _, _, _, _, _, _, _, _ => none
 | k + 1, x0, x1, x2, x3, x57, x111000, x111001, x111002, x120000, x120001, x120002 => if x57 = true then (some false) else (laws_FnExactSetZ.j5 k x0 x1 x2 x3 x111000 x111001 x111002 x120000 x120001 x120002)
def laws_FnExactSetZ.j5 : Nat → List (S46) → ByteArray → Int → Int → Int → ByteArray → List (S47) → Int → ByteArray → List (S47) → Option (Bool)
 | 0, _, _, _, _, _, _, _, _, _, _ => none
 | k + 1, x0, x1, x2, x3, x111000, x111001, x111002, x120000, x120001, x120002 => (laws_markZResult.f k x120000 x120001 x120002 1).bind fun bt128 => ((laws_heldZResult.f k x120000 x120001 bt128.2 1).bind fun t130 => (if t130 < 0 then (some false) else (laws_FnExactSetZ.j6 k x0 x1 x2 x3 bt128.1 t130 x111000 x111001 x111002 x120000 x120001 bt128.2)))
def laws_FnExactSetZ.j6 : Nat → List (S46) → ByteArray → Int → Int → Int → Int → Int → ByteArray → List (S47) → Int → ByteArray → List (S47) → Option (Bool)
 | 0, _, _, _, _, _, _, _, _, _, _, _, _ => none
 | k + 1, x0, x1, x2, x3, x14, x15, x111000, x111001, x111002, x120000, x120001, x120002 => if x15 = x14 then (laws_FnExactSetZ.j7 k x0 x1 x2 x3 x14 x111000 x111001 x111002 x120000 x120001 x120002) else (some false)
def laws_FnExactSetZ.j7 : Nat → List (S46) → ByteArray → Int → Int → Int → Int → ByteArray → List (S47) → Int → ByteArray → List (S47) → Option (Bool)
 | 0, _, _, _, _, _, _, _, _, _, _, _ => none
 | k + 1, x0, x1, x2, x3, x14, x111000, x111001, x111002, x120000, x120001, x120002 => (laws_toZnodeS.f k x0).bind fun t131 => ((impl_SetZ.f k t131 x1 x2 x3).bind fun bt134 => ((laws_eqZResult.f k bt134.1 bt134.2.1 bt134.2.2 x111000 x111001 x111002).bind fun t140 => (if t140 = true then (laws_FnExactSetZ.j8 k x14 x120000 x120001 x120002) else (some false))))
def laws_FnExactSetZ.j8 : Nat → Int → Int → ByteArray → List (S47) → Option (Bool)
 | 0, _, _, _, _ => none
 | k + 1, x14, x120000, x120001, x120002 => (laws_heldZResult.f k x120000 x120001 x120002 1).bind fun t141 => (if t141 < 0 then (some false) else (if t141 = x14 then (some true) else (some false)))
end
def laws_FnExactSetZ.f (k : Nat) (l0 : List (S46)) (a1 : ByteArray) (a2 : Int) (a3 : Int) : Option (Bool) := if (a1.size : Int) > 1048576 then (some true) else (laws_FnExactSetZ.j0 k l0 a1 a2 a3)
theorem laws_FnExactSetZ.mono_l : ∀ k, (∀ y0 y1 y2 y3, LeO (laws_FnExactSetZ.j0 k y0 y1 y2 y3) (laws_FnExactSetZ.j0 (k + 1) y0 y1 y2 y3)) ∧ (∀ y0 y1 y2 y3, LeO (laws_FnExactSetZ.j1 k y0 y1 y2 y3) (laws_FnExactSetZ.j1 (k + 1) y0 y1 y2 y3)) ∧ (∀ y0 y1 y2 y3 y4 y5 y6 y7 y8 y9 y10, LeO (laws_FnExactSetZ.j2 k y0 y1 y2 y3 y4 y5 y6 y7 y8 y9 y10) (laws_FnExactSetZ.j2 (k + 1) y0 y1 y2 y3 y4 y5 y6 y7 y8 y9 y10)) ∧ (∀ y0 y1 y2 y3 y4 y5 y6 y7 y8 y9 y10, LeO (laws_FnExactSetZ.j3 k y0 y1 y2 y3 y4 y5 y6 y7 y8 y9 y10) (laws_FnExactSetZ.j3 (k + 1) y0 y1 y2 y3 y4 y5 y6 y7 y8 y9 y10)) ∧ (∀ y0 y1 y2 y3 y4 y5 y6 y7 y8 y9 y10, LeO (laws_FnExactSetZ.j4 k y0 y1 y2 y3 y4 y5 y6 y7 y8 y9 y10) (laws_FnExactSetZ.j4 (k + 1) y0 y1 y2 y3 y4 y5 y6 y7 y8 y9 y10)) ∧ (∀ y0 y1 y2 y3 y4 y5 y6 y7 y8 y9, LeO (laws_FnExactSetZ.j5 k y0 y1 y2 y3 y4 y5 y6 y7 y8 y9) (laws_FnExactSetZ.j5 (k + 1) y0 y1 y2 y3 y4 y5 y6 y7 y8 y9)) ∧ (∀ y0 y1 y2 y3 y4 y5 y6 y7 y8 y9 y10 y11, LeO (laws_FnExactSetZ.j6 k y0 y1 y2 y3 y4 y5 y6 y7 y8 y9 y10 y11) (laws_FnExactSetZ.j6 (k + 1) y0 y1 y2 y3 y4 y5 y6 y7 y8 y9 y10 y11)) ∧ (∀ y0 y1 y2 y3 y4 y5 y6 y7 y8 y9 y10, LeO (laws_FnExactSetZ.j7 k y0 y1 y2 y3 y4 y5 y6 y7 y8 y9 y10) (laws_FnExactSetZ.j7 (k + 1) y0 y1 y2 y3 y4 y5 y6 y7 y8 y9 y10)) ∧ (∀ y0 y1 y2 y3, LeO (laws_FnExactSetZ.j8 k y0 y1 y2 y3) (laws_FnExactSetZ.j8 (k + 1) y0 y1 y2 y3))
 | 0 => ⟨fun _ _ _ _ r h => by simp [laws_FnExactSetZ.j0] at h, fun _ _ _ _ r h => by simp [laws_FnExactSetZ.j1] at h, fun _ _ _ _ _ _ _ _ _ _ _ r h => by simp [laws_FnExactSetZ.j2] at h, fun _ _ _ _ _ _ _ _ _ _ _ r h => by simp [laws_FnExactSetZ.j3] at h, fun _ _ _ _ _ _ _ _ _ _ _ r h => by simp [laws_FnExactSetZ.j4] at h, fun _ _ _ _ _ _ _ _ _ _ r h => by simp [laws_FnExactSetZ.j5] at h, fun _ _ _ _ _ _ _ _ _ _ _ _ r h => by simp [laws_FnExactSetZ.j6] at h, fun _ _ _ _ _ _ _ _ _ _ _ r h => by simp [laws_FnExactSetZ.j7] at h, fun _ _ _ _ r h => by simp [laws_FnExactSetZ.j8] at h⟩
 | k + 1 => by
  obtain ⟨ih0, ih1, ih2, ih3, ih4, ih5, ih6, ih7, ih8⟩ := laws_FnExactSetZ.mono_l k
  refine ⟨?_, ?_, ?_, ?_, ?_, ?_, ?_, ?_, ?_⟩
  ·
   intro y0 y1 y2 y3
   unfold laws_FnExactSetZ.j0
   repeat' first
   | (with_reducible exact ih0 _ _ _ _)
   | (with_reducible exact ih1 _ _ _ _)
   | (with_reducible exact ih2 _ _ _ _ _ _ _ _ _ _ _)
   | (with_reducible exact ih3 _ _ _ _ _ _ _ _ _ _ _)
   | (with_reducible exact ih4 _ _ _ _ _ _ _ _ _ _ _)
   | (with_reducible exact ih5 _ _ _ _ _ _ _ _ _ _)
   | (with_reducible exact ih6 _ _ _ _ _ _ _ _ _ _ _ _)
   | (with_reducible exact ih7 _ _ _ _ _ _ _ _ _ _ _)
   | (with_reducible exact ih8 _ _ _ _)
   | (with_reducible exact impl_SetZ.mono _ _ _ _ _)
   | (with_reducible exact laws_eqZResult.mono _ _ _ _ _ _ _)
   | (with_reducible exact laws_eqZnodeS.mono _ _ _)
   | (with_reducible exact laws_heldZResult.mono _ _ _ _ _)
   | (with_reducible exact laws_markZResult.mono _ _ _ _ _)
   | (with_reducible exact laws_markZnodeS.mono _ _ _)
   | (with_reducible exact laws_szZnodeS.mono _ _ _)
   | (with_reducible exact laws_toZnodeS.mono _ _)
   | (with_reducible exact spec_SetZ.mono _ _ _ _ _)
   | (with_reducible exact LeO.refl _)
   | (with_reducible exact LeO.none _)
   | (with_reducible refine LeO.ite ?_ ?_)
   | (with_reducible refine LeO.bind ?_ (fun _ => ?_))
   | exact ih0 _ _ _ _
   | exact ih1 _ _ _ _
   | exact ih2 _ _ _ _ _ _ _ _ _ _ _
   | exact ih3 _ _ _ _ _ _ _ _ _ _ _
   | exact ih4 _ _ _ _ _ _ _ _ _ _ _
   | exact ih5 _ _ _ _ _ _ _ _ _ _
   | exact ih6 _ _ _ _ _ _ _ _ _ _ _ _
   | exact ih7 _ _ _ _ _ _ _ _ _ _ _
   | exact ih8 _ _ _ _
   | exact impl_SetZ.mono _ _ _ _ _
   | exact laws_eqZResult.mono _ _ _ _ _ _ _
   | exact laws_eqZnodeS.mono _ _ _
   | exact laws_heldZResult.mono _ _ _ _ _
   | exact laws_markZResult.mono _ _ _ _ _
   | exact laws_markZnodeS.mono _ _ _
   | exact laws_szZnodeS.mono _ _ _
   | exact laws_toZnodeS.mono _ _
   | exact spec_SetZ.mono _ _ _ _ _
   | exact LeO.none _
   | refine LeO.ite ?_ ?_
   | refine LeO.bind ?_ (fun _ => ?_)
  ·
   intro y0 y1 y2 y3
   unfold laws_FnExactSetZ.j1
   repeat' first
   | (with_reducible exact ih0 _ _ _ _)
   | (with_reducible exact ih1 _ _ _ _)
   | (with_reducible exact ih2 _ _ _ _ _ _ _ _ _ _ _)
   | (with_reducible exact ih3 _ _ _ _ _ _ _ _ _ _ _)
   | (with_reducible exact ih4 _ _ _ _ _ _ _ _ _ _ _)
   | (with_reducible exact ih5 _ _ _ _ _ _ _ _ _ _)
   | (with_reducible exact ih6 _ _ _ _ _ _ _ _ _ _ _ _)
   | (with_reducible exact ih7 _ _ _ _ _ _ _ _ _ _ _)
   | (with_reducible exact ih8 _ _ _ _)
   | (with_reducible exact impl_SetZ.mono _ _ _ _ _)
   | (with_reducible exact laws_eqZResult.mono _ _ _ _ _ _ _)
   | (with_reducible exact laws_eqZnodeS.mono _ _ _)
   | (with_reducible exact laws_heldZResult.mono _ _ _ _ _)
   | (with_reducible exact laws_markZResult.mono _ _ _ _ _)
   | (with_reducible exact laws_markZnodeS.mono _ _ _)
   | (with_reducible exact laws_szZnodeS.mono _ _ _)
   | (with_reducible exact laws_toZnodeS.mono _ _)
   | (with_reducible exact spec_SetZ.mono _ _ _ _ _)
   | (with_reducible exact LeO.refl _)
   | (with_reducible exact LeO.none _)
   | (with_reducible refine LeO.ite ?_ ?_)
   | (with_reducible refine LeO.bind ?_ (fun _ => ?_))
   | exact ih0 _ _ _ _
   | exact ih1 _ _ _ _
   | exact ih2 _ _ _ _ _ _ _ _ _ _ _
   | exact ih3 _ _ _ _ _ _ _ _ _ _ _
   | exact ih4 _ _ _ _ _ _ _ _ _ _ _
   | exact ih5 _ _ _ _ _ _ _ _ _ _
   | exact ih6 _ _ _ _ _ _ _ _ _ _ _ _
   | exact ih7 _ _ _ _ _ _ _ _ _ _ _
   | exact ih8 _ _ _ _
   | exact impl_SetZ.mono _ _ _ _ _
   | exact laws_eqZResult.mono _ _ _ _ _ _ _
   | exact laws_eqZnodeS.mono _ _ _
   | exact laws_heldZResult.mono _ _ _ _ _
   | exact laws_markZResult.mono _ _ _ _ _
   | exact laws_markZnodeS.mono _ _ _
   | exact laws_szZnodeS.mono _ _ _
   | exact laws_toZnodeS.mono _ _
   | exact spec_SetZ.mono _ _ _ _ _
   | exact LeO.none _
   | refine LeO.ite ?_ ?_
   | refine LeO.bind ?_ (fun _ => ?_)
  ·
   intro y0 y1 y2 y3 y4 y5 y6 y7 y8 y9 y10
   unfold laws_FnExactSetZ.j2
   repeat' first
   | (with_reducible exact ih0 _ _ _ _)
   | (with_reducible exact ih1 _ _ _ _)
   | (with_reducible exact ih2 _ _ _ _ _ _ _ _ _ _ _)
   | (with_reducible exact ih3 _ _ _ _ _ _ _ _ _ _ _)
   | (with_reducible exact ih4 _ _ _ _ _ _ _ _ _ _ _)
   | (with_reducible exact ih5 _ _ _ _ _ _ _ _ _ _)
   | (with_reducible exact ih6 _ _ _ _ _ _ _ _ _ _ _ _)
   | (with_reducible exact ih7 _ _ _ _ _ _ _ _ _ _ _)
   | (with_reducible exact ih8 _ _ _ _)
   | (with_reducible exact impl_SetZ.mono _ _ _ _ _)
   | (with_reducible exact laws_eqZResult.mono _ _ _ _ _ _ _)
   | (with_reducible exact laws_eqZnodeS.mono _ _ _)
   | (with_reducible exact laws_heldZResult.mono _ _ _ _ _)
   | (with_reducible exact laws_markZResult.mono _ _ _ _ _)
   | (with_reducible exact laws_markZnodeS.mono _ _ _)
   | (with_reducible exact laws_szZnodeS.mono _ _ _)
   | (with_reducible exact laws_toZnodeS.mono _ _)
   | (with_reducible exact spec_SetZ.mono _ _ _ _ _)
   | (with_reducible exact LeO.refl _)
   | (with_reducible exact LeO.none _)
   | (with_reducible refine LeO.ite ?_ ?_)
   | (with_reducible refine LeO.bind ?_ (fun _ => ?_))
   | exact ih0 _ _ _ _
   | exact ih1 _ _ _ _
   | exact ih2 _ _ _ _ _ _ _ _ _ _ _
   | exact ih3 _ _ _ _ _ _ _ _ _ _ _
   | exact ih4 _ _ _ _ _ _ _ _ _ _ _
   | exact ih5 _ _ _ _ _ _ _ _ _ _
   | exact ih6 _ _ _ _ _ _ _ _ _ _ _ _
   | exact ih7 _ _ _ _ _ _ _ _ _ _ _
   | exact ih8 _ _ _ _
   | exact impl_SetZ.mono _ _ _ _ _
   | exact laws_eqZResult.mono _ _ _ _ _ _ _
   | exact laws_eqZnodeS.mono _ _ _
   | exact laws_heldZResult.mono _ _ _ _ _
   | exact laws_markZResult.mono _ _ _ _ _
   | exact laws_markZnodeS.mono _ _ _
   | exact laws_szZnodeS.mono _ _ _
   | exact laws_toZnodeS.mono _ _
   | exact spec_SetZ.mono _ _ _ _ _
   | exact LeO.none _
   | refine LeO.ite ?_ ?_
   | refine LeO.bind ?_ (fun _ => ?_)
  ·
   intro y0 y1 y2 y3 y4 y5 y6 y7 y8 y9 y10
   unfold laws_FnExactSetZ.j3
   repeat' first
   | (with_reducible exact ih0 _ _ _ _)
   | (with_reducible exact ih1 _ _ _ _)
   | (with_reducible exact ih2 _ _ _ _ _ _ _ _ _ _ _)
   | (with_reducible exact ih3 _ _ _ _ _ _ _ _ _ _ _)
   | (with_reducible exact ih4 _ _ _ _ _ _ _ _ _ _ _)
   | (with_reducible exact ih5 _ _ _ _ _ _ _ _ _ _)
   | (with_reducible exact ih6 _ _ _ _ _ _ _ _ _ _ _ _)
   | (with_reducible exact ih7 _ _ _ _ _ _ _ _ _ _ _)
   | (with_reducible exact ih8 _ _ _ _)
   | (with_reducible exact impl_SetZ.mono _ _ _ _ _)
   | (with_reducible exact laws_eqZResult.mono _ _ _ _ _ _ _)
   | (with_reducible exact laws_eqZnodeS.mono _ _ _)
   | (with_reducible exact laws_heldZResult.mono _ _ _ _ _)
   | (with_reducible exact laws_markZResult.mono _ _ _ _ _)
   | (with_reducible exact laws_markZnodeS.mono _ _ _)
   | (with_reducible exact laws_szZnodeS.mono _ _ _)
   | (with_reducible exact laws_toZnodeS.mono _ _)
   | (with_reducible exact spec_SetZ.mono _ _ _ _ _)
   | (with_reducible exact LeO.refl _)
   | (with_reducible exact LeO.none _)
   | (with_reducible refine LeO.ite ?_ ?_)
   | (with_reducible refine LeO.bind ?_ (fun _ => ?_))
   | exact ih0 _ _ _ _
   | exact ih1 _ _ _ _
   | exact ih2 _ _ _ _ _ _ _ _ _ _ _
   | exact ih3 _ _ _ _ _ _ _ _ _ _ _
   | exact ih4 _ _ _ _ _ _ _ _ _ _ _
   | exact ih5 _ _ _ _ _ _ _ _ _ _
   | exact ih6 _ _ _ _ _ _ _ _ _ _ _ _
   | exact ih7 _ _ _ _ _ _ _ _ _ _ _
   | exact ih8 _ _ _ _
   | exact impl_SetZ.mono _ _ _ _ _
   | exact laws_eqZResult.mono _ _ _ _ _ _ _
   | exact laws_eqZnodeS.mono _ _ _
   | exact laws_heldZResult.mono _ _ _ _ _
   | exact laws_markZResult.mono _ _ _ _ _
   | exact laws_markZnodeS.mono _ _ _
   | exact laws_szZnodeS.mono _ _ _
   | exact laws_toZnodeS.mono _ _
   | exact spec_SetZ.mono _ _ _ _ _
   | exact LeO.none _
   | refine LeO.ite ?_ ?_
   | refine LeO.bind ?_ (fun _ => ?_)
  ·
   intro y0 y1 y2 y3 y4 y5 y6 y7 y8 y9 y10
   unfold laws_FnExactSetZ.j4
   repeat' first
   | (with_reducible exact ih0 _ _ _ _)
   | (with_reducible exact ih1 _ _ _ _)
   | (with_reducible exact ih2 _ _ _ _ _ _ _ _ _ _ _)
   | (with_reducible exact ih3 _ _ _ _ _ _ _ _ _ _ _)
   | (with_reducible exact ih4 _ _ _ _ _ _ _ _ _ _ _)
   | (with_reducible exact ih5 _ _ _ _ _ _ _ _ _ _)
   | (with_reducible exact ih6 _ _ _ _ _ _ _ _ _ _ _ _)
   | (with_reducible exact ih7 _ _ _ _ _ _ _ _ _ _ _)
   | (with_reducible exact ih8 _ _ _ _)
   | (with_reducible exact impl_SetZ.mono _ _ _ _ _)
   | (with_reducible exact laws_eqZResult.mono _ _ _ _ _ _ _)
   | (with_reducible exact laws_eqZnodeS.mono _ _ _)
   | (with_reducible exact laws_heldZResult.mono _ _ _ _ _)
   | (with_reducible exact laws_markZResult.mono _ _ _ _ _)
   | (with_reducible exact laws_markZnodeS.mono _ _ _)
   | (with_reducible exact laws_szZnodeS.mono _ _ _)
   | (with_reducible exact laws_toZnodeS.mono _ _)
   | (with_reducible exact spec_SetZ.mono _ _ _ _ _)
   | (with_reducible exact LeO.refl _)
   | (with_reducible exact LeO.none _)
   | (with_reducible refine LeO.ite ?_ ?_)
   | (with_reducible refine LeO.bind ?_ (fun _ => ?_))
   | exact ih0 _ _ _ _
   | exact ih1 _ _ _ _
   | exact ih2 _ _ _ _ _ _ _ _ _ _ _
   | exact ih3 _ _ _ _ _ _ _ _ _ _ _
   | exact ih4 _ _ _ _ _ _ _ _ _ _ _
   | exact ih5 _ _ _ _ _ _ _ _ _ _
   | exact ih6 _ _ _ _ _ _ _ _ _ _ _ _
   | exact ih7 _ _ _ _ _ _ _ _ _ _ _
   | exact ih8 _ _ _ _
   | exact impl_SetZ.mono _ _ _ _ _
   | exact laws_eqZResult.mono _ _ _ _ _ _ _
   | exact laws_eqZnodeS.mono _ _ _
   | exact laws_heldZResult.mono _ _ _ _ _
   | exact laws_markZResult.mono _ _ _ _ _
   | exact laws_markZnodeS.mono _ _ _
   | exact laws_szZnodeS.mono _ _ _
   | exact laws_toZnodeS.mono _ _
   | exact spec_SetZ.mono _ _ _ _ _
   | exact LeO.none _
   | refine LeO.ite ?_ ?_
   | refine LeO.bind ?_ (fun _ => ?_)
  ·
   intro y0 y1 y2 y3 y4 y5 y6 y7 y8 y9
   unfold laws_FnExactSetZ.j5
   repeat' first
   | (with_reducible exact ih0 _ _ _ _)
   | (with_reducible exact ih1 _ _ _ _)
   | (with_reducible exact ih2 _ _ _ _ _ _ _ _ _ _ _)
   | (with_reducible exact ih3 _ _ _ _ _ _ _ _ _ _ _)
   | (with_reducible exact ih4 _ _ _ _ _ _ _ _ _ _ _)
   | (with_reducible exact ih5 _ _ _ _ _ _ _ _ _ _)
   | (with_reducible exact ih6 _ _ _ _ _ _ _ _ _ _ _ _)
   | (with_reducible exact ih7 _ _ _ _ _ _ _ _ _ _ _)
   | (with_reducible exact ih8 _ _ _ _)
   | (with_reducible exact impl_SetZ.mono _ _ _ _ _)
   | (with_reducible exact laws_eqZResult.mono _ _ _ _ _ _ _)
   | (with_reducible exact laws_eqZnodeS.mono _ _ _)
   | (with_reducible exact laws_heldZResult.mono _ _ _ _ _)
   | (with_reducible exact laws_markZResult.mono _ _ _ _ _)
   | (with_reducible exact laws_markZnodeS.mono _ _ _)
   | (with_reducible exact laws_szZnodeS.mono _ _ _)
   | (with_reducible exact laws_toZnodeS.mono _ _)
   | (with_reducible exact spec_SetZ.mono _ _ _ _ _)
   | (with_reducible exact LeO.refl _)
   | (with_reducible exact LeO.none _)
   | (with_reducible refine LeO.ite ?_ ?_)
   | (with_reducible refine LeO.bind ?_ (fun _ => ?_))
   | exact ih0 _ _ _ _
   | exact ih1 _ _ _ _
   | exact ih2 _ _ _ _ _ _ _ _ _ _ _
   | exact ih3 _ _ _ _ _ _ _ _ _ _ _
   | exact ih4 _ _ _ _ _ _ _ _ _ _ _
   | exact ih5 _ _ _ _ _ _ _ _ _ _
   | exact ih6 _ _ _ _ _ _ _ _ _ _ _ _
   | exact ih7 _ _ _ _ _ _ _ _ _ _ _
   | exact ih8 _ _ _ _
   | exact impl_SetZ.mono _ _ _ _ _
   | exact laws_eqZResult.mono _ _ _ _ _ _ _
   | exact laws_eqZnodeS.mono _ _ _
   | exact laws_heldZResult.mono _ _ _ _ _
   | exact laws_markZResult.mono _ _ _ _ _
   | exact laws_markZnodeS.mono _ _ _
   | exact laws_szZnodeS.mono _ _ _
   | exact laws_toZnodeS.mono _ _
   | exact spec_SetZ.mono _ _ _ _ _
   | exact LeO.none _
   | refine LeO.ite ?_ ?_
   | refine LeO.bind ?_ (fun _ => ?_)
  ·
   intro y0 y1 y2 y3 y4 y5 y6 y7 y8 y9 y10 y11
   unfold laws_FnExactSetZ.j6
   repeat' first
   | (with_reducible exact ih0 _ _ _ _)
   | (with_reducible exact ih1 _ _ _ _)
   | (with_reducible exact ih2 _ _ _ _ _ _ _ _ _ _ _)
   | (with_reducible exact ih3 _ _ _ _ _ _ _ _ _ _ _)
   | (with_reducible exact ih4 _ _ _ _ _ _ _ _ _ _ _)
   | (with_reducible exact ih5 _ _ _ _ _ _ _ _ _ _)
   | (with_reducible exact ih6 _ _ _ _ _ _ _ _ _ _ _ _)
   | (with_reducible exact ih7 _ _ _ _ _ _ _ _ _ _ _)
   | (with_reducible exact ih8 _ _ _ _)
   | (with_reducible exact impl_SetZ.mono _ _ _ _ _)
   | (with_reducible exact laws_eqZResult.mono _ _ _ _ _ _ _)
   | (with_reducible exact laws_eqZnodeS.mono _ _ _)
   | (with_reducible exact laws_heldZResult.mono _ _ _ _ _)
   | (with_reducible exact laws_markZResult.mono _ _ _ _ _)
   | (with_reducible exact laws_markZnodeS.mono _ _ _)
   | (with_reducible exact laws_szZnodeS.mono _ _ _)
   | (with_reducible exact laws_toZnodeS.mono _ _)
   | (with_reducible exact spec_SetZ.mono _ _ _ _ _)
   | (with_reducible exact LeO.refl _)
   | (with_reducible exact LeO.none _)
   | (with_reducible refine LeO.ite ?_ ?_)
   | (with_reducible refine LeO.bind ?_ (fun _ => ?_))
   | exact ih0 _ _ _ _
   | exact ih1 _ _ _ _
   | exact ih2 _ _ _ _ _ _ _ _ _ _ _
   | exact ih3 _ _ _ _ _ _ _ _ _ _ _
   | exact ih4 _ _ _ _ _ _ _ _ _ _ _
   | exact ih5 _ _ _ _ _ _ _ _ _ _
   | exact ih6 _ _ _ _ _ _ _ _ _ _ _ _
   | exact ih7 _ _ _ _ _ _ _ _ _ _ _
   | exact ih8 _ _ _ _
   | exact impl_SetZ.mono _ _ _ _ _
   | exact laws_eqZResult.mono _ _ _ _ _ _ _
   | exact laws_eqZnodeS.mono _ _ _
   | exact laws_heldZResult.mono _ _ _ _ _
   | exact laws_markZResult.mono _ _ _ _ _
   | exact laws_markZnodeS.mono _ _ _
   | exact laws_szZnodeS.mono _ _ _
   | exact laws_toZnodeS.mono _ _
   | exact spec_SetZ.mono _ _ _ _ _
   | exact LeO.none _
   | refine LeO.ite ?_ ?_
   | refine LeO.bind ?_ (fun _ => ?_)
  ·
   intro y0 y1 y2 y3 y4 y5 y6 y7 y8 y9 y10
   unfold laws_FnExactSetZ.j7
   repeat' first
   | (with_reducible exact ih0 _ _ _ _)
   | (with_reducible exact ih1 _ _ _ _)
   | (with_reducible exact ih2 _ _ _ _ _ _ _ _ _ _ _)
   | (with_reducible exact ih3 _ _ _ _ _ _ _ _ _ _ _)
   | (with_reducible exact ih4 _ _ _ _ _ _ _ _ _ _ _)
   | (with_reducible exact ih5 _ _ _ _ _ _ _ _ _ _)
   | (with_reducible exact ih6 _ _ _ _ _ _ _ _ _ _ _ _)
   | (with_reducible exact ih7 _ _ _ _ _ _ _ _ _ _ _)
   | (with_reducible exact ih8 _ _ _ _)
   | (with_reducible exact impl_SetZ.mono _ _ _ _ _)
   | (with_reducible exact laws_eqZResult.mono _ _ _ _ _ _ _)
   | (with_reducible exact laws_eqZnodeS.mono _ _ _)
   | (with_reducible exact laws_heldZResult.mono _ _ _ _ _)
   | (with_reducible exact laws_markZResult.mono _ _ _ _ _)
   | (with_reducible exact laws_markZnodeS.mono _ _ _)
   | (with_reducible exact laws_szZnodeS.mono _ _ _)
   | (with_reducible exact laws_toZnodeS.mono _ _)
   | (with_reducible exact spec_SetZ.mono _ _ _ _ _)
   | (with_reducible exact LeO.refl _)
   | (with_reducible exact LeO.none _)
   | (with_reducible refine LeO.ite ?_ ?_)
   | (with_reducible refine LeO.bind ?_ (fun _ => ?_))
   | exact ih0 _ _ _ _
   | exact ih1 _ _ _ _
   | exact ih2 _ _ _ _ _ _ _ _ _ _ _
   | exact ih3 _ _ _ _ _ _ _ _ _ _ _
   | exact ih4 _ _ _ _ _ _ _ _ _ _ _
   | exact ih5 _ _ _ _ _ _ _ _ _ _
   | exact ih6 _ _ _ _ _ _ _ _ _ _ _ _
   | exact ih7 _ _ _ _ _ _ _ _ _ _ _
   | exact ih8 _ _ _ _
   | exact impl_SetZ.mono _ _ _ _ _
   | exact laws_eqZResult.mono _ _ _ _ _ _ _
   | exact laws_eqZnodeS.mono _ _ _
   | exact laws_heldZResult.mono _ _ _ _ _
   | exact laws_markZResult.mono _ _ _ _ _
   | exact laws_markZnodeS.mono _ _ _
   | exact laws_szZnodeS.mono _ _ _
   | exact laws_toZnodeS.mono _ _
   | exact spec_SetZ.mono _ _ _ _ _
   | exact LeO.none _
   | refine LeO.ite ?_ ?_
   | refine LeO.bind ?_ (fun _ => ?_)
  ·
   intro y0 y1 y2 y3
   unfold laws_FnExactSetZ.j8
   repeat' first
   | (with_reducible exact ih0 _ _ _ _)
   | (with_reducible exact ih1 _ _ _ _)
   | (with_reducible exact ih2 _ _ _ _ _ _ _ _ _ _ _)
   | (with_reducible exact ih3 _ _ _ _ _ _ _ _ _ _ _)
   | (with_reducible exact ih4 _ _ _ _ _ _ _ _ _ _ _)
   | (with_reducible exact ih5 _ _ _ _ _ _ _ _ _ _)
   | (with_reducible exact ih6 _ _ _ _ _ _ _ _ _ _ _ _)
   | (with_reducible exact ih7 _ _ _ _ _ _ _ _ _ _ _)
   | (with_reducible exact ih8 _ _ _ _)
   | (with_reducible exact impl_SetZ.mono _ _ _ _ _)
   | (with_reducible exact laws_eqZResult.mono _ _ _ _ _ _ _)
   | (with_reducible exact laws_eqZnodeS.mono _ _ _)
   | (with_reducible exact laws_heldZResult.mono _ _ _ _ _)
   | (with_reducible exact laws_markZResult.mono _ _ _ _ _)
   | (with_reducible exact laws_markZnodeS.mono _ _ _)
   | (with_reducible exact laws_szZnodeS.mono _ _ _)
   | (with_reducible exact laws_toZnodeS.mono _ _)
   | (with_reducible exact spec_SetZ.mono _ _ _ _ _)
   | (with_reducible exact LeO.refl _)
   | (with_reducible exact LeO.none _)
   | (with_reducible refine LeO.ite ?_ ?_)
   | (with_reducible refine LeO.bind ?_ (fun _ => ?_))
   | exact ih0 _ _ _ _
   | exact ih1 _ _ _ _
   | exact ih2 _ _ _ _ _ _ _ _ _ _ _
   | exact ih3 _ _ _ _ _ _ _ _ _ _ _
   | exact ih4 _ _ _ _ _ _ _ _ _ _ _
   | exact ih5 _ _ _ _ _ _ _ _ _ _
   | exact ih6 _ _ _ _ _ _ _ _ _ _ _ _
   | exact ih7 _ _ _ _ _ _ _ _ _ _ _
   | exact ih8 _ _ _ _
   | exact impl_SetZ.mono _ _ _ _ _
   | exact laws_eqZResult.mono _ _ _ _ _ _ _
   | exact laws_eqZnodeS.mono _ _ _
   | exact laws_heldZResult.mono _ _ _ _ _
   | exact laws_markZResult.mono _ _ _ _ _
   | exact laws_markZnodeS.mono _ _ _
   | exact laws_szZnodeS.mono _ _ _
   | exact laws_toZnodeS.mono _ _
   | exact spec_SetZ.mono _ _ _ _ _
   | exact LeO.none _
   | refine LeO.ite ?_ ?_
   | refine LeO.bind ?_ (fun _ => ?_)
theorem laws_FnExactSetZ.mono : ∀ a0 a1 a2 a3 k, LeO (laws_FnExactSetZ.f k a0 a1 a2 a3) (laws_FnExactSetZ.f (k + 1) a0 a1 a2 a3) := by
 intro a0 a1 a2 a3 k
 obtain ⟨ih0, ih1, ih2, ih3, ih4, ih5, ih6, ih7, ih8⟩ := laws_FnExactSetZ.mono_l k
 unfold laws_FnExactSetZ.f
 repeat' first
   | (with_reducible exact ih0 _ _ _ _)
   | (with_reducible exact ih1 _ _ _ _)
   | (with_reducible exact ih2 _ _ _ _ _ _ _ _ _ _ _)
   | (with_reducible exact ih3 _ _ _ _ _ _ _ _ _ _ _)
   | (with_reducible exact ih4 _ _ _ _ _ _ _ _ _ _ _)
   | (with_reducible exact ih5 _ _ _ _ _ _ _ _ _ _)
   | (with_reducible exact ih6 _ _ _ _ _ _ _ _ _ _ _ _)
   | (with_reducible exact ih7 _ _ _ _ _ _ _ _ _ _ _)
   | (with_reducible exact ih8 _ _ _ _)
   | (with_reducible exact impl_SetZ.mono _ _ _ _ _)
   | (with_reducible exact laws_eqZResult.mono _ _ _ _ _ _ _)
   | (with_reducible exact laws_eqZnodeS.mono _ _ _)
   | (with_reducible exact laws_heldZResult.mono _ _ _ _ _)
   | (with_reducible exact laws_markZResult.mono _ _ _ _ _)
   | (with_reducible exact laws_markZnodeS.mono _ _ _)
   | (with_reducible exact laws_szZnodeS.mono _ _ _)
   | (with_reducible exact laws_toZnodeS.mono _ _)
   | (with_reducible exact spec_SetZ.mono _ _ _ _ _)
   | (with_reducible exact LeO.refl _)
   | (with_reducible exact LeO.none _)
   | (with_reducible refine LeO.ite ?_ ?_)
   | (with_reducible refine LeO.bind ?_ (fun _ => ?_))
   | exact ih0 _ _ _ _
   | exact ih1 _ _ _ _
   | exact ih2 _ _ _ _ _ _ _ _ _ _ _
   | exact ih3 _ _ _ _ _ _ _ _ _ _ _
   | exact ih4 _ _ _ _ _ _ _ _ _ _ _
   | exact ih5 _ _ _ _ _ _ _ _ _ _
   | exact ih6 _ _ _ _ _ _ _ _ _ _ _ _
   | exact ih7 _ _ _ _ _ _ _ _ _ _ _
   | exact ih8 _ _ _ _
   | exact impl_SetZ.mono _ _ _ _ _
   | exact laws_eqZResult.mono _ _ _ _ _ _ _
   | exact laws_eqZnodeS.mono _ _ _
   | exact laws_heldZResult.mono _ _ _ _ _
   | exact laws_markZResult.mono _ _ _ _ _
   | exact laws_markZnodeS.mono _ _ _
   | exact laws_szZnodeS.mono _ _ _
   | exact laws_toZnodeS.mono _ _
   | exact spec_SetZ.mono _ _ _ _ _
   | exact LeO.none _
   | refine LeO.ite ?_ ?_
   | refine LeO.bind ?_ (fun _ => ?_)
theorem laws_FnExactSetZ.calls (k : Nat) (A0 : Option Addr) (c0 : Nat) (l0 : List (S46)) (a1 : ByteArray) (a2 : Int) (a3 : Int) (r : Bool) (w : World) (hr0 : Kd.C k46 w A0 l0.length l0) (hc0 : l0.length ≤ c0) (h : laws_FnExactSetZ.f k l0 a1 a2 a3 = some r) :
  Calls Tryd.prog 6 #[.slice A0 l0.length c0, .string a1, .int .i64 a2, .int .i64 a3] w fun e w' => e = .returned (.bool r) ∧ Below w.heap.size w w' := by
 have hu30 := Tryd.underlying30
 have HR0 := aa hr0
 have HC0 := aa hc0
 clear hr0 hc0
 have HB := aa (Below.refl w.heap.size w)
 have H : (if (a1.size : Int) > 1048576 then (some true) else (laws_FnExactSetZ.j0 k l0 a1 a2 a3)) = some r := h
 clear h
 have HC5 := aa H
 clear H
 go_enter Tryd.func6, Tryd.ntmps6
 go_upto_if 19 with (fail)
 go_cut [] (fun wc => ∃ (kq : Nat), Aside0 (laws_FnExactSetZ.j0 kq l0 a1 a2 a3 = some r) ∧ Aside0 (kq ≤ k) ∧ Aside0 (Below w.heap.size w wc))
 case first =>
  have H := HC5.out
  clear HC5
  by_cases c6 : (a1.size : Int) > 1048576
  ·
   rw [if_pos c6] at H
   have c6b0 : decide (1048576 < (a1.size : Int)) = true := decide_eq_true c6
   have c6b1 : decide (1048576 < a1.size) = true := decide_eq_true (by omega)
   clear c6
   (first | rw [c6b0] | (simp only [i64_w, i32_w]; rw [c6b0]) | (simp only [c6b2, Bool.not_false, Bool.not_true]) | skip)
   obtain rfl := Option.some.inj H
   go_wp2
   go_ret
   exact ⟨by first | rfl | (simp [errW_none, errW_some] <;> rfl) | (simp [*, errW_none, errW_some] <;> rfl), by repeat (first | (with_reducible first | exact HB.out | apply below_alloc | apply pw_below_drewN | apply below_drew1) | exact HB.out)⟩
  ·
   rw [if_neg c6] at H
   have c6b0 : decide (1048576 < (a1.size : Int)) = false := decide_eq_false c6
   have c6b1 : decide (1048576 < a1.size) = false := decide_eq_false (by omega)
   clear c6
   (first | rw [c6b0] | (simp only [i64_w, i32_w]; rw [c6b0]) | (simp only [c6b2, Bool.not_false, Bool.not_true]) | skip)
   have H' := aa H
   clear H
   go_wp2
   go_meet
   case rel => exact ⟨_, H', ⟨by first | omega | exact Nat.le_refl _⟩, ⟨by repeat (first | (with_reducible first | exact HB.out | apply below_alloc | apply pw_below_drewN | apply below_drew1) | exact HB.out)⟩⟩
 case rest =>
  clear HC5
  try clear p2
  try clear c6
  try clear c6b0
  try clear c6b1
  try clear c6b2
  obtain ⟨kq, HA, HJ4, HB⟩ := hcut
  cases kq with
  | zero => exact absurd HA.out (by simp [laws_FnExactSetZ.j0])
  | succ kj4 =>
   have H := HA.out
   clear HA
   simp only [laws_FnExactSetZ.j0] at H
   replace H := Option.bind_eq_some_iff.mp H
   obtain ⟨t101, A70, H⟩ := H
   replace H : (if t101 < 0 then (some true) else (laws_FnExactSetZ.j1 kj4 l0 a1 a2 a3)) = some r := H
   have A7 := aa A70
   clear A70
   have HC8 := aa H
   clear H
   go_upto_if 24 with (first | ((with_reducible refine gate_callee (f := 7) rfl ?_); refine goesL_ (some 22) rfl rfl Tryd.func7 (by kernel_rfl) rfl #[.slice A0 l0.length c0, .int .i64 1048576] rfl zjnmae ?_; (with_reducible refine (laws_szZnodeS.calls kj4 _ _ l0 1048576 t101 _ ?side1 ?side2 A7.out).mono ?_); (case side1 => exact zfmbgg); (case side2 => exact HC0.out); rintro e w9 ⟨rfl, hb⟩; refine ⟨_, rfl, ?_⟩; have n0_ := aa (below_step zjjbob hb); clear HB; have HB := n0_; clear n0_; (try clear hb); (try clear hb2); (try clear hk); (try clear hi)))
   (try simp only [Act.put, List.setIfInBounds_toArray, List.set_cons_zero, List.set_cons_succ])
   go_cut [] (fun wc => ∃ (kq : Nat), Aside0 (laws_FnExactSetZ.j1 kq l0 a1 a2 a3 = some r) ∧ Aside0 (kq ≤ kj4) ∧ Aside0 (Below w.heap.size w wc))
   case first =>
    have H := HC8.out
    clear HC8
    by_cases c10 : t101 < 0
    ·
     rw [if_pos c10] at H
     have c10b0 : decide (t101 < 0) = true := decide_eq_true c10
     clear c10
     (first | rw [c10b0] | (simp only [i64_w, i32_w]; rw [c10b0]) | (simp only [c10b2, Bool.not_false, Bool.not_true]) | skip)
     obtain rfl := Option.some.inj H
     go_wp2
     go_ret
     exact ⟨by first | rfl | (simp [errW_none, errW_some] <;> rfl) | (simp [*, errW_none, errW_some] <;> rfl), by repeat (first | (with_reducible first | exact HB.out | apply below_alloc | apply pw_below_drewN | apply below_drew1) | exact HB.out)⟩
    ·
     rw [if_neg c10] at H
     have c10b0 : decide (t101 < 0) = false := decide_eq_false c10
     clear c10
     (first | rw [c10b0] | (simp only [i64_w, i32_w]; rw [c10b0]) | (simp only [c10b2, Bool.not_false, Bool.not_true]) | skip)
     have H' := aa H
     clear H
     go_wp2
     go_meet
     case rel => exact ⟨_, H', ⟨by have := HJ4.out; first | omega | exact Nat.le_refl _⟩, ⟨by repeat (first | (with_reducible first | exact HB.out | apply below_alloc | apply pw_below_drewN | apply below_drew1) | exact HB.out)⟩⟩
   case rest =>
    clear HC8
    try clear c1
    try clear p2
    try clear c6
    try clear c6b0
    try clear c6b1
    try clear c6b2
    try clear c7
    try clear c10
    try clear c10b0
    try clear c10b2
    try clear p2
    obtain ⟨kq, HA, HJ7, HB⟩ := hcut
    cases kq with
    | zero => exact absurd HA.out (by simp [laws_FnExactSetZ.j1])
    | succ kj7 =>
     have H := HA.out
     clear HA
     simp only [laws_FnExactSetZ.j1] at H
     replace H := Option.bind_eq_some_iff.mp H
     obtain ⟨t102, A110, H⟩ := H
     replace H : ((spec_SetZ.f kj7 t102 a1 a2 a3).bind fun bt105 => ((laws_toZnodeS.f kj7 l0).bind fun t111 => ((impl_SetZ.f kj7 t111 a1 a2 a3).bind fun bt114 => ((laws_eqZResult.f kj7 bt114.1 bt114.2.1 bt114.2.2 bt105.1 bt105.2.1 bt105.2.2).bind fun t120 => (if t120 = true then (laws_FnExactSetZ.j2 kj7 l0 a1 a2 a3 t111 bt105.1 bt105.2.1 bt105.2.2 bt114.1 bt114.2.1 bt114.2.2) else (some false)))))) = some r := H
     have A11 := aa A110
     clear A110
     replace H := Option.bind_eq_some_iff.mp H
     obtain ⟨⟨t105, t106, t107⟩, A120, H⟩ := H
     replace H : ((laws_toZnodeS.f kj7 l0).bind fun t111 => ((impl_SetZ.f kj7 t111 a1 a2 a3).bind fun bt114 => ((laws_eqZResult.f kj7 bt114.1 bt114.2.1 bt114.2.2 t105 t106 t107).bind fun t120 => (if t120 = true then (laws_FnExactSetZ.j2 kj7 l0 a1 a2 a3 t111 t105 t106 t107 bt114.1 bt114.2.1 bt114.2.2) else (some false))))) = some r := H
     have A12 := aa A120
     clear A120
     replace H := Option.bind_eq_some_iff.mp H
     obtain ⟨t111, A130, H⟩ := H
     replace H : ((impl_SetZ.f kj7 t111 a1 a2 a3).bind fun bt114 => ((laws_eqZResult.f kj7 bt114.1 bt114.2.1 bt114.2.2 t105 t106 t107).bind fun t120 => (if t120 = true then (laws_FnExactSetZ.j2 kj7 l0 a1 a2 a3 t111 t105 t106 t107 bt114.1 bt114.2.1 bt114.2.2) else (some false)))) = some r := H
     have A13 := aa A130
     clear A130
     replace H := Option.bind_eq_some_iff.mp H
     obtain ⟨⟨t114, t115, t116⟩, A140, H⟩ := H
     replace H : ((laws_eqZResult.f kj7 t114 t115 t116 t105 t106 t107).bind fun t120 => (if t120 = true then (laws_FnExactSetZ.j2 kj7 l0 a1 a2 a3 t111 t105 t106 t107 t114 t115 t116) else (some false))) = some r := H
     have A14 := aa A140
     clear A140
     replace H := Option.bind_eq_some_iff.mp H
     obtain ⟨t120, A150, H⟩ := H
     replace H : (if t120 = true then (laws_FnExactSetZ.j2 kj7 l0 a1 a2 a3 t111 t105 t106 t107 t114 t115 t116) else (some false)) = some r := H
     have A15 := aa A150
     clear A150
     have HC16 := aa H
     clear H
     go_upto_if 41 with (first | ((with_reducible refine gate_callee (f := 9) rfl ?_); refine goesL_ (some 26) rfl rfl Tryd.func9 (by kernel_rfl) rfl #[.slice A0 l0.length c0] rfl zjnmae ?_; (with_reducible refine (laws_toZnodeS.calls kj7 _ _ l0 t102 _ ?side1 ?side2 A11.out).mono ?_); (case side1 => exact zfmbgg); (case side2 => exact HC0.out); rintro e w17 ⟨v103, rfl, ho0, hb⟩; refine ⟨_, rfl, ?_⟩; have n0_ := aa (Kd.R_lower ho0 (below_size zjjbob)); have n1_ := aa (below_step zjjbob hb); clear HB; have HO104 := n0_; have HB := n1_; clear n0_ n1_; (try clear hb); (try clear hb2); (try clear hk); (try clear hi); (try clear ho0); obtain ⟨Ao18, co18, eo18⟩ := Kd.R_slice HO104.out; subst eo18) | ((with_reducible refine gate_callee (f := 23) rfl ?_); refine goesL_ (some 30) rfl rfl Tryd.func23 (by kernel_rfl) rfl #[.slice Ao18 t102.length co18, .string a1, .int .i64 a2, .int .i64 a3] rfl zjnmae ?_; (with_reducible refine (spec_SetZ.calls kj7 _ _ t102 a1 a2 a3 t105 t106 t107 _ ?side1 ?side2 A12.out).mono ?_); (case side1 => exact zielno); (case side2 => exact zjebkg); rintro e w19 ⟨v108, rfl, ho0, hb⟩; refine ⟨_, rfl, ?_⟩; have n0_ := aa (Kd.R_elder' (zcaken HO104.out) (Kd.R_base ho0) hb); have n1_ := aa (Kd.R_lower (Kd.R_new' ho0 (Kd.R_lt (zcaken HO104.out))) (below_size zjjbob)); have n2_ := aa (below_step zjjbob hb); clear HO104; clear HB; have HO104 := n0_; have HO109 := n1_; have HB := n2_; clear n0_ n1_ n2_; (try clear hb); (try clear hb2); (try clear hk); (try clear hi); (try clear ho0)) | ((with_reducible refine gate_dst (N := 10) rfl ?_); refine box_event ?hg (N := 10) ?hd (cs := #[.int .i64 0, .string (⟨#[]⟩ : ByteArray), .slice none 0 0]) (t := 30) ?hr ?_; (case hd => rfl); (case hg => rfl); (case hr => exact zhlgcp); intro gb110 hg w20 hbox hb; have n0_ := aa (Kd.R_below (zcaken HO104.out) hb); have n1_ := aa (Kd.R_below (zcaken HO109.out) hb); have n2_ := aa (below_step zjjbob hb); have n3_ := aa (hbox); have n4_ := aa ((zkpfjp : w.heap.size ≤ gb110)); have n5_ := aa ((zkpfjp : w.heap.size ≤ gb110)); clear HO104; clear HO109; clear HB; have HO104 := n0_; have HO109 := n1_; have HB := n2_; have BK110 := n3_; have GW110 := n4_; have GE110 := n5_; clear n0_ n1_ n2_ n3_ n4_ n5_; clear hb hbox hg; have hcz21_0 : w20.cell? ⟨gb110, 0, none⟩ = some (.int .i64 0) := (blk_cell BK110.out 0).trans rfl; have hcz21_1 : w20.cell? ⟨gb110, 1, none⟩ = some (.string (⟨#[]⟩ : ByteArray)) := (blk_cell BK110.out 1).trans rfl; have hcz21_2 : w20.cell? ⟨gb110, 2, none⟩ = some (.slice none 0 0) := (blk_cell BK110.out 2).trans rfl; have hfz21_0 := blk_frozen BK110.out 0; have hfz21_1 := blk_frozen BK110.out 1; have hfz21_2 := blk_frozen BK110.out 2; obtain ⟨Ao22, co22, eo22⟩ := Kd.R_slice HO109.out; subst eo22) | ((with_reducible refine gate_callee (f := 9) rfl ?_); refine goesL_ (some 32) rfl rfl Tryd.func9 (by kernel_rfl) rfl #[.slice A0 l0.length c0] rfl zjnmae ?_; (with_reducible refine (laws_toZnodeS.calls kj7 _ _ l0 t111 _ ?side1 ?side2 A13.out).mono ?_); (case side1 => exact Kd.C_below HR0.out zphagh); (case side2 => exact HC0.out); rintro e w23 ⟨v112, rfl, ho0, hb⟩; refine ⟨_, rfl, ?_⟩; have n0_ := aa (Kd.R_elder' (by (with_reducible repeat (first | apply Kd.R_alloc | apply Kd.R_drewN | apply Kd.R_drew)); exact (Kd.R_mono (Kd.R_far (p := ⟨gb110, 2, none⟩) (Kd.R_far (p := ⟨gb110, 1, none⟩) (Kd.R_far (p := ⟨gb110, 0, none⟩) (Kd.R_types HO104.out BK110.out (by decide)) (fun _ hk => hk.2) (.int .i64 t105)) (fun _ hk => hk.2) (.string t106)) (fun _ hk => hk.2) (.slice Ao22 t107.length co22)) (fun _ h_ => h_.1))) (Kd.R_base ho0) hb); have n1_ := aa (Kd.R_elder' (by (with_reducible repeat (first | apply Kd.R_alloc | apply Kd.R_drewN | apply Kd.R_drew)); exact (Kd.R_mono (Kd.R_far (p := ⟨gb110, 2, none⟩) (Kd.R_far (p := ⟨gb110, 1, none⟩) (Kd.R_far (p := ⟨gb110, 0, none⟩) (Kd.R_types HO109.out BK110.out (by decide)) (fun _ hk => hk.2) (.int .i64 t105)) (fun _ hk => hk.2) (.string t106)) (fun _ hk => hk.2) (.slice Ao22 t107.length co22)) (fun _ h_ => h_.1))) (Kd.R_base ho0) hb); have n2_ := aa (Kd.R_lower (Kd.R_new' (Kd.R_new' ho0 (Kd.R_lt (by (with_reducible repeat (first | apply Kd.R_alloc | apply Kd.R_drewN | apply Kd.R_drew)); exact (Kd.R_mono (Kd.R_far (p := ⟨gb110, 2, none⟩) (Kd.R_far (p := ⟨gb110, 1, none⟩) (Kd.R_far (p := ⟨gb110, 0, none⟩) (Kd.R_types HO104.out BK110.out (by decide)) (fun _ hk => hk.2) (.int .i64 t105)) (fun _ hk => hk.2) (.string t106)) (fun _ hk => hk.2) (.slice Ao22 t107.length co22)) (fun _ h_ => h_.1))))) (Kd.R_lt (by (with_reducible repeat (first | apply Kd.R_alloc | apply Kd.R_drewN | apply Kd.R_drew)); exact (Kd.R_mono (Kd.R_far (p := ⟨gb110, 2, none⟩) (Kd.R_far (p := ⟨gb110, 1, none⟩) (Kd.R_far (p := ⟨gb110, 0, none⟩) (Kd.R_types HO109.out BK110.out (by decide)) (fun _ hk => hk.2) (.int .i64 t105)) (fun _ hk => hk.2) (.string t106)) (fun _ hk => hk.2) (.slice Ao22 t107.length co22)) (fun _ h_ => h_.1))))) (below_size zphagh)); have n3_ := aa (blk_below (g := gb110) (o := .cells #[.int .i64 t105, .string t106, .slice Ao22 t107.length co22] 30 (0, 0)) zlgohn hb); have n4_ := aa (below_step zphagh hb); clear HO104; clear HO109; clear BK110; clear HB; have HO104 := n0_; have HO109 := n1_; have HO113 := n2_; have BK110 := n3_; have HB := n4_; clear n0_ n1_ n2_ n3_ n4_; (try clear hb); (try clear hb2); (try clear hk); (try clear hi); (try clear ho0); obtain ⟨Ao24, co24, eo24⟩ := Kd.R_slice HO113.out; subst eo24) | ((with_reducible refine gate_callee (f := 24) rfl ?_); refine goesL_ (some 37) rfl rfl Tryd.func24 (by kernel_rfl) rfl #[.slice Ao24 t111.length co24, .string a1, .int .i64 a2, .int .i64 a3] rfl zjnmae ?_; (with_reducible refine (impl_SetZ.calls kj7 _ _ t111 a1 a2 a3 t114 t115 t116 _ ?side1 ?side2 A14.out).mono ?_); (case side1 => exact znbkjn); (case side2 => exact (Kd.R_reads' HO113.out).2.1); rintro e w25 ⟨v117, rfl, ho0, hb⟩; refine ⟨_, rfl, ?_⟩; have n0_ := aa (Kd.R_elder' (zcaken HO104.out) (Kd.R_base ho0) hb); have n1_ := aa (Kd.R_elder' (zcaken HO109.out) (Kd.R_base ho0) hb); have n2_ := aa (Kd.R_elder' (zcaken HO113.out) (Kd.R_base ho0) hb); have n3_ := aa (Kd.R_lower (Kd.R_new' (Kd.R_new' (Kd.R_new' ho0 (Kd.R_lt (zcaken HO104.out))) (Kd.R_lt (zcaken HO109.out))) (Kd.R_lt (zcaken HO113.out))) (below_size zphagh)); have n4_ := aa (blk_below (g := gb110) (o := .cells #[.int .i64 t105, .string t106, .slice Ao22 t107.length co22] 30 (0, 0)) (zkjhpm BK110.out) hb); have n5_ := aa (below_step zphagh hb); clear HO104; clear HO109; clear HO113; clear BK110; clear HB; have HO104 := n0_; have HO109 := n1_; have HO113 := n2_; have HO118 := n3_; have BK110 := n4_; have HB := n5_; clear n0_ n1_ n2_ n3_ n4_ n5_; (try clear hb); (try clear hb2); (try clear hk); (try clear hi); (try clear ho0)) | ((with_reducible refine gate_dst (N := 12) rfl ?_); refine box_event ?hg (N := 12) ?hd (cs := #[.int .i64 0, .string (⟨#[]⟩ : ByteArray), .slice none 0 0]) (t := 30) ?hr ?_; (case hd => rfl); (case hg => rfl); (case hr => exact zhlgcp); intro gb119 hg w26 hbox hb; have n0_ := aa (Kd.R_below (zcaken HO104.out) hb); have n1_ := aa (Kd.R_below (zcaken HO109.out) hb); have n2_ := aa (Kd.R_below (zcaken HO113.out) hb); have n3_ := aa (Kd.R_below (zcaken HO118.out) hb); have n4_ := aa (blk_below (g := gb110) (o := .cells #[.int .i64 t105, .string t106, .slice Ao22 t107.length co22] 30 (0, 0)) (zkjhpm BK110.out) hb); have n5_ := aa (below_step zphagh hb); have n6_ := aa (hbox); have n7_ := aa ((zhkmcl : w.heap.size ≤ gb119)); have n8_ := aa ((zhkmcl : w.heap.size ≤ gb119)); have n9_ := aa ((zfmgid : gb110 ≠ gb119)); have n10_ := aa ((zkdfmf : gb119 ≠ gb110)); clear HO104; clear HO109; clear HO113; clear HO118; clear BK110; clear HB; have HO104 := n0_; have HO109 := n1_; have HO113 := n2_; have HO118 := n3_; have BK110 := n4_; have HB := n5_; have BK119 := n6_; have GW119 := n7_; have GE119 := n8_; have NB110_119 := n9_; have NB119_110 := n10_; clear n0_ n1_ n2_ n3_ n4_ n5_ n6_ n7_ n8_ n9_ n10_; clear hb hbox hg; have hnb27 := NB119_110.out; have hnc27 := NB110_119.out; have hcz28_0 : w26.cell? ⟨gb119, 0, none⟩ = some (.int .i64 0) := (blk_cell BK119.out 0).trans rfl; have hcz28_1 : w26.cell? ⟨gb119, 1, none⟩ = some (.string (⟨#[]⟩ : ByteArray)) := (blk_cell BK119.out 1).trans rfl; have hcz28_2 : w26.cell? ⟨gb119, 2, none⟩ = some (.slice none 0 0) := (blk_cell BK119.out 2).trans rfl; have hfz28_0 := blk_frozen BK119.out 0; have hfz28_1 := blk_frozen BK119.out 1; have hfz28_2 := blk_frozen BK119.out 2; obtain ⟨Ao29, co29, eo29⟩ := Kd.R_slice HO118.out; subst eo29; have hcz30_0 : w26.cell? ⟨gb110, 0, none⟩ = some (.int .i64 t105) := (blk_cell BK110.out 0).trans rfl; have hcz30_1 : w26.cell? ⟨gb110, 1, none⟩ = some (.string t106) := (blk_cell BK110.out 1).trans rfl; have hcz30_2 : w26.cell? ⟨gb110, 2, none⟩ = some (.slice Ao22 t107.length co22) := (blk_cell BK110.out 2).trans rfl; have hfz30_0 := blk_frozen BK110.out 0; have hfz30_1 := blk_frozen BK110.out 1; have hfz30_2 := blk_frozen BK110.out 2) | ((with_reducible refine gate_callee (f := 14) rfl ?_); refine goesL_ (some 40) rfl rfl Tryd.func14 (by kernel_rfl) rfl #[.agg #[.int .i64 t114, .string t115, .slice Ao29 t116.length co29], .agg #[.int .i64 t105, .string t106, .slice Ao22 t107.length co22]] rfl zjnmae ?_; (with_reducible refine (laws_eqZResult.calls kj7 t114 t115 _ _ t116 t105 t106 _ _ t107 t120 _ ?side1 ?side2 ?side3 ?side4 A15.out).mono ?_); (case side1 => refine (Kd.R_reads' (e := 47) (base := w.heap.size) (ok := fun k_ => (((True ∧ some k_ ≠ (.slice Ao18 t102.length co18 : Value).ownBlock) ∧ some k_ ≠ (.slice Ao22 t107.length co22 : Value).ownBlock) ∧ some k_ ≠ (.slice Ao24 t111.length co24 : Value).ownBlock)) (n := t116.length) (c := co29) ?_).2.2; exact (by (with_reducible repeat (first | apply Kd.R_alloc | apply Kd.R_drewN | apply Kd.R_drew)); exact (Kd.R_mono (Kd.R_far (p := ⟨gb119, 2, none⟩) (Kd.R_far (p := ⟨gb119, 1, none⟩) (Kd.R_far (p := ⟨gb119, 0, none⟩) (Kd.R_types HO118.out BK119.out (by decide)) (fun _ hk => hk.2) (.int .i64 t114)) (fun _ hk => hk.2) (.string t115)) (fun _ hk => hk.2) (.slice Ao29 t116.length co29)) (fun _ h_ => h_.1)))); (case side2 => exact (Kd.R_reads' HO118.out).2.1); (case side3 => refine (Kd.R_reads' (e := 47) (base := w.heap.size) (ok := fun k_ => (((True ∧ some k_ ≠ (.slice Ao18 t102.length co18 : Value).ownBlock) ∧ some k_ ≠ (.slice Ao24 t111.length co24 : Value).ownBlock) ∧ some k_ ≠ (.slice Ao29 t116.length co29 : Value).ownBlock)) (n := t107.length) (c := co22) ?_).2.2; exact (by (with_reducible repeat (first | apply Kd.R_alloc | apply Kd.R_drewN | apply Kd.R_drew)); exact (Kd.R_mono (Kd.R_far (p := ⟨gb119, 2, none⟩) (Kd.R_far (p := ⟨gb119, 1, none⟩) (Kd.R_far (p := ⟨gb119, 0, none⟩) (Kd.R_types HO109.out BK119.out (by decide)) (fun _ hk => hk.2) (.int .i64 t114)) (fun _ hk => hk.2) (.string t115)) (fun _ hk => hk.2) (.slice Ao29 t116.length co29)) (fun _ h_ => h_.1)))); (case side4 => exact (Kd.R_reads' HO109.out).2.1); rintro e w31 ⟨rfl, hb⟩; refine ⟨_, rfl, ?_⟩; have n0_ := aa (Kd.R_below (by (with_reducible repeat (first | apply Kd.R_alloc | apply Kd.R_drewN | apply Kd.R_drew)); exact (Kd.R_mono (Kd.R_far (p := ⟨gb119, 2, none⟩) (Kd.R_far (p := ⟨gb119, 1, none⟩) (Kd.R_far (p := ⟨gb119, 0, none⟩) (Kd.R_types HO104.out BK119.out (by decide)) (fun _ hk => hk.2) (.int .i64 t114)) (fun _ hk => hk.2) (.string t115)) (fun _ hk => hk.2) (.slice Ao29 t116.length co29)) (fun _ h_ => h_.1))) hb); have n1_ := aa (Kd.R_below (by (with_reducible repeat (first | apply Kd.R_alloc | apply Kd.R_drewN | apply Kd.R_drew)); exact (Kd.R_mono (Kd.R_far (p := ⟨gb119, 2, none⟩) (Kd.R_far (p := ⟨gb119, 1, none⟩) (Kd.R_far (p := ⟨gb119, 0, none⟩) (Kd.R_types HO109.out BK119.out (by decide)) (fun _ hk => hk.2) (.int .i64 t114)) (fun _ hk => hk.2) (.string t115)) (fun _ hk => hk.2) (.slice Ao29 t116.length co29)) (fun _ h_ => h_.1))) hb); have n2_ := aa (Kd.R_below (by (with_reducible repeat (first | apply Kd.R_alloc | apply Kd.R_drewN | apply Kd.R_drew)); exact (Kd.R_mono (Kd.R_far (p := ⟨gb119, 2, none⟩) (Kd.R_far (p := ⟨gb119, 1, none⟩) (Kd.R_far (p := ⟨gb119, 0, none⟩) (Kd.R_types HO113.out BK119.out (by decide)) (fun _ hk => hk.2) (.int .i64 t114)) (fun _ hk => hk.2) (.string t115)) (fun _ hk => hk.2) (.slice Ao29 t116.length co29)) (fun _ h_ => h_.1))) hb); have n3_ := aa (Kd.R_below (by (with_reducible repeat (first | apply Kd.R_alloc | apply Kd.R_drewN | apply Kd.R_drew)); exact (Kd.R_mono (Kd.R_far (p := ⟨gb119, 2, none⟩) (Kd.R_far (p := ⟨gb119, 1, none⟩) (Kd.R_far (p := ⟨gb119, 0, none⟩) (Kd.R_types HO118.out BK119.out (by decide)) (fun _ hk => hk.2) (.int .i64 t114)) (fun _ hk => hk.2) (.string t115)) (fun _ hk => hk.2) (.slice Ao29 t116.length co29)) (fun _ h_ => h_.1))) hb); have n4_ := aa (blk_below (g := gb110) (o := .cells #[.int .i64 t105, .string t106, .slice Ao22 t107.length co22] 30 (0, 0)) zaiebf hb); have n5_ := aa (blk_below (g := gb119) (o := .cells #[.int .i64 t114, .string t115, .slice Ao29 t116.length co29] 30 (0, 0)) znmeoc hb); have n6_ := aa (below_step zjnifo hb); clear HO104; clear HO109; clear HO113; clear HO118; clear BK110; clear BK119; clear HB; have HO104 := n0_; have HO109 := n1_; have HO113 := n2_; have HO118 := n3_; have BK110 := n4_; have BK119 := n5_; have HB := n6_; clear n0_ n1_ n2_ n3_ n4_ n5_ n6_; (try clear hb); (try clear hb2); (try clear hk); (try clear hi)))
     (try simp only [Act.put, List.setIfInBounds_toArray, List.set_cons_zero, List.set_cons_succ])
     go_cut [] (fun wc => ∃ (kq : Nat), Aside0 (laws_FnExactSetZ.j2 kq l0 a1 a2 a3 t111 t105 t106 t107 t114 t115 t116 = some r) ∧ Aside0 (kq ≤ kj7) ∧ Aside0 (Kd.R k47 47 wc w.heap.size (fun k_ => some k_ ≠ ((.slice Ao22 t107.length co22) : Value).ownBlock ∧ some k_ ≠ ((.slice Ao29 t116.length co29) : Value).ownBlock) (.slice Ao24 t111.length co24) t111) ∧ Aside0 (Kd.R k47 47 wc w.heap.size (fun k_ => some k_ ≠ ((.slice Ao24 t111.length co24) : Value).ownBlock ∧ some k_ ≠ ((.slice Ao29 t116.length co29) : Value).ownBlock) (.slice Ao22 t107.length co22) t107) ∧ Aside0 (Kd.R k47 47 wc w.heap.size (fun k_ => some k_ ≠ ((.slice Ao24 t111.length co24) : Value).ownBlock ∧ some k_ ≠ ((.slice Ao22 t107.length co22) : Value).ownBlock) (.slice Ao29 t116.length co29) t116) ∧ Aside0 (wc.heap[gb110]? = some (.cells #[.int .i64 t105, .string t106, (.slice Ao22 t107.length co22)] 30 (0, 0))) ∧ Aside0 (wc.heap[gb119]? = some (.cells #[.int .i64 t114, .string t115, (.slice Ao29 t116.length co29)] 30 (0, 0))) ∧ Aside0 (Below w.heap.size w wc))
     case first =>
      have H := HC16.out
      clear HC16
      by_cases c32 : t120 = true
      ·
       subst c32
       have H1 : (laws_FnExactSetZ.j2 kj7 l0 a1 a2 a3 t111 t105 t106 t107 t114 t115 t116) = some r := by rw [if_pos rfl] at H; exact H
       clear H
       have H := H1
       clear H1
       have H' := aa H
       clear H
       go_wp2
       go_meet
       case rel => exact ⟨_, H', ⟨by have := HJ4.out; have := HJ7.out; first | omega | exact Nat.le_refl _⟩, ⟨by (with_reducible repeat (first | apply Kd.R_alloc | apply Kd.R_drewN | apply Kd.R_drew)); exact Kd.R_mono HO113.out (fun _ hk => ⟨hk.1.2, hk.2⟩)⟩, ⟨by (with_reducible repeat (first | apply Kd.R_alloc | apply Kd.R_drewN | apply Kd.R_drew)); exact Kd.R_mono HO109.out (fun _ hk => ⟨hk.1.2, hk.2⟩)⟩, ⟨by (with_reducible repeat (first | apply Kd.R_alloc | apply Kd.R_drewN | apply Kd.R_drew)); exact Kd.R_mono HO118.out (fun _ hk => ⟨hk.2, hk.1.2⟩)⟩, ⟨by (with_reducible repeat (first | refine blk_drewN ?_ _ | refine blk_drew ?_ | refine blk_alloc ?_ _)); exact BK110.out⟩, ⟨by (with_reducible repeat (first | refine blk_drewN ?_ _ | refine blk_drew ?_ | refine blk_alloc ?_ _)); exact BK119.out⟩, ⟨by repeat (first | (with_reducible first | exact HB.out | apply below_alloc | apply pw_below_drewN | apply below_drew1 | refine below_set ?_ GE110.out | refine below_set ?_ GE119.out) | exact HB.out)⟩⟩
      ·
       replace c32 := Bool.eq_false_iff.mpr c32
       subst c32
       have H1 : (some false) = some r := by rw [if_neg (show ¬ (false = true) by decide)] at H; exact H
       clear H
       have H := H1
       clear H1
       obtain rfl := Option.some.inj H
       go_wp2
       go_ret
       exact ⟨by first | rfl | (simp [errW_none, errW_some] <;> rfl) | (simp [*, errW_none, errW_some] <;> rfl), by repeat (first | (with_reducible first | exact HB.out | apply below_alloc | apply pw_below_drewN | apply below_drew1 | refine below_set ?_ GE110.out | refine below_set ?_ GE119.out) | exact HB.out)⟩
     case rest =>
      clear HC16
      try clear c1
      try clear c2
      try clear p2
      try clear c3
      try clear c6
      try clear c6b0
      try clear c6b1
      try clear c6b2
      try clear c7
      try clear c9
      try clear c10
      try clear c10b0
      try clear c10b2
      try clear c14
      try clear c23
      try clear c24
      try clear c27
      try clear c32
      try clear hcz21_0
      try clear hcz21_1
      try clear hcz21_2
      try clear hcz28_0
      try clear hcz28_1
      try clear hcz28_2
      try clear hcz30_0
      try clear hcz30_1
      try clear hcz30_2
      try clear hfz21_0
      try clear hfz21_1
      try clear hfz21_2
      try clear hfz28_0
      try clear hfz28_1
      try clear hfz28_2
      try clear hfz30_0
      try clear hfz30_1
      try clear hfz30_2
      try clear p2
      obtain ⟨kq, HA, HJ15, HO_11, HO_111002, HO_120002, BK110, BK119, HB⟩ := hcut
      cases kq with
      | zero => exact absurd HA.out (by simp [laws_FnExactSetZ.j2])
      | succ kj15 =>
       have H := HA.out
       clear HA
       simp only [laws_FnExactSetZ.j2] at H
       replace H := Option.bind_eq_some_iff.mp H
       obtain ⟨t121, A330, H⟩ := H
       replace H : ((laws_eqZnodeS.f kj15 t111 t121).bind fun t124 => (if t124 = true then (laws_FnExactSetZ.j3 kj15 l0 a1 a2 a3 t111 t105 t106 t107 t114 t115 t116) else (some false))) = some r := H
       have A33 := aa A330
       clear A330
       replace H := Option.bind_eq_some_iff.mp H
       obtain ⟨t124, A340, H⟩ := H
       replace H : (if t124 = true then (laws_FnExactSetZ.j3 kj15 l0 a1 a2 a3 t111 t105 t106 t107 t114 t115 t116) else (some false)) = some r := H
       have A34 := aa A340
       clear A340
       have HC35 := aa H
       clear H
       go_upto_if 46 with (first | ((with_reducible refine gate_callee (f := 9) rfl ?_); refine goesL_ (some 44) rfl rfl Tryd.func9 (by kernel_rfl) rfl #[.slice A0 l0.length c0] rfl zjnmae ?_; (with_reducible refine (laws_toZnodeS.calls kj15 _ _ l0 t121 _ ?side1 ?side2 A33.out).mono ?_); (case side1 => exact zfmbgg); (case side2 => exact HC0.out); rintro e w36 ⟨v122, rfl, ho0, hb⟩; refine ⟨_, rfl, ?_⟩; have n0_ := aa (Kd.R_elder' (zcaken HO_11.out) (Kd.R_base ho0) hb); have n1_ := aa (Kd.R_elder' (zcaken HO_111002.out) (Kd.R_base ho0) hb); have n2_ := aa (Kd.R_elder' (zcaken HO_120002.out) (Kd.R_base ho0) hb); have n3_ := aa (Kd.R_lower (Kd.R_new' (Kd.R_new' (Kd.R_new' ho0 (Kd.R_lt (zcaken HO_11.out))) (Kd.R_lt (zcaken HO_111002.out))) (Kd.R_lt (zcaken HO_120002.out))) (below_size zjnifo)); have n4_ := aa (blk_below (g := gb110) (o := .cells #[.int .i64 t105, .string t106, .slice Ao22 t107.length co22] 30 (0, 0)) (zkjhpm BK110.out) hb); have n5_ := aa (blk_below (g := gb119) (o := .cells #[.int .i64 t114, .string t115, .slice Ao29 t116.length co29] 30 (0, 0)) (zkjhpm BK119.out) hb); have n6_ := aa (below_step zjnifo hb); clear HO_11; clear HO_111002; clear HO_120002; clear BK110; clear BK119; clear HB; have HO_11 := n0_; have HO_111002 := n1_; have HO_120002 := n2_; have HO123 := n3_; have BK110 := n4_; have BK119 := n5_; have HB := n6_; clear n0_ n1_ n2_ n3_ n4_ n5_ n6_; (try clear hb); (try clear hb2); (try clear hk); (try clear hi); (try clear ho0); obtain ⟨Ao37, co37, eo37⟩ := Kd.R_slice HO123.out; subst eo37) | ((with_reducible refine gate_callee (f := 11) rfl ?_); refine goesL_ (some 45) rfl rfl Tryd.func11 (by kernel_rfl) rfl #[.slice Ao24 t111.length co24, .slice Ao37 t121.length co37] rfl zjnmae ?_; (with_reducible refine (laws_eqZnodeS.calls kj15 _ _ t111 _ _ t121 t124 _ ?side1 ?side2 ?side3 ?side4 A34.out).mono ?_); (case side1 => repeat (first | exact (Kd.R_reads' HO_11.out).2.2 | (with_reducible refine Kd.C_alloc ?_ _) | (with_reducible refine Kd.C_drewN ?_ _) | (with_reducible refine Kd.C_drew ?_))); (case side2 => exact (Kd.R_reads' HO_11.out).2.1); (case side3 => exact zbikob); (case side4 => exact (Kd.R_reads' HO123.out).2.1); rintro e w38 ⟨rfl, hb⟩; refine ⟨_, rfl, ?_⟩; have n0_ := aa (Kd.R_below (zcaken HO_11.out) hb); have n1_ := aa (Kd.R_below (zcaken HO_111002.out) hb); have n2_ := aa (Kd.R_below (zcaken HO_120002.out) hb); have n3_ := aa (Kd.R_below (zcaken HO123.out) hb); have n4_ := aa (blk_below (g := gb110) (o := .cells #[.int .i64 t105, .string t106, .slice Ao22 t107.length co22] 30 (0, 0)) (zkjhpm BK110.out) hb); have n5_ := aa (blk_below (g := gb119) (o := .cells #[.int .i64 t114, .string t115, .slice Ao29 t116.length co29] 30 (0, 0)) (zkjhpm BK119.out) hb); have n6_ := aa (below_step zjnifo hb); clear HO_11; clear HO_111002; clear HO_120002; clear HO123; clear BK110; clear BK119; clear HB; have HO_11 := n0_; have HO_111002 := n1_; have HO_120002 := n2_; have HO123 := n3_; have BK110 := n4_; have BK119 := n5_; have HB := n6_; clear n0_ n1_ n2_ n3_ n4_ n5_ n6_; (try clear hb); (try clear hb2); (try clear hk); (try clear hi)))
       (try simp only [Act.put, List.setIfInBounds_toArray, List.set_cons_zero, List.set_cons_succ])
       go_cut [] (fun wc => ∃ (kq : Nat), Aside0 (laws_FnExactSetZ.j3 kq l0 a1 a2 a3 t111 t105 t106 t107 t114 t115 t116 = some r) ∧ Aside0 (kq ≤ kj15) ∧ Aside0 (Kd.R k47 47 wc w.heap.size (fun k_ => some k_ ≠ ((.slice Ao22 t107.length co22) : Value).ownBlock ∧ some k_ ≠ ((.slice Ao29 t116.length co29) : Value).ownBlock) (.slice Ao24 t111.length co24) t111) ∧ Aside0 (Kd.R k47 47 wc w.heap.size (fun k_ => some k_ ≠ ((.slice Ao24 t111.length co24) : Value).ownBlock ∧ some k_ ≠ ((.slice Ao29 t116.length co29) : Value).ownBlock) (.slice Ao22 t107.length co22) t107) ∧ Aside0 (Kd.R k47 47 wc w.heap.size (fun k_ => some k_ ≠ ((.slice Ao24 t111.length co24) : Value).ownBlock ∧ some k_ ≠ ((.slice Ao22 t107.length co22) : Value).ownBlock) (.slice Ao29 t116.length co29) t116) ∧ Aside0 (wc.heap[gb110]? = some (.cells #[.int .i64 t105, .string t106, (.slice Ao22 t107.length co22)] 30 (0, 0))) ∧ Aside0 (wc.heap[gb119]? = some (.cells #[.int .i64 t114, .string t115, (.slice Ao29 t116.length co29)] 30 (0, 0))) ∧ Aside0 (Below w.heap.size w wc))
       case first =>
        have H := HC35.out
        clear HC35
        by_cases c39 : t124 = true
        ·
         subst c39
         have H1 : (laws_FnExactSetZ.j3 kj15 l0 a1 a2 a3 t111 t105 t106 t107 t114 t115 t116) = some r := by rw [if_pos rfl] at H; exact H
         clear H
         have H := H1
         clear H1
         have H' := aa H
         clear H
         go_wp2
         go_meet
         case rel => exact ⟨_, H', ⟨by have := HJ4.out; have := HJ7.out; have := HJ15.out; first | omega | exact Nat.le_refl _⟩, ⟨by (with_reducible repeat (first | apply Kd.R_alloc | apply Kd.R_drewN | apply Kd.R_drew)); exact Kd.R_mono HO_11.out (fun _ hk => ⟨hk.1.1, hk.1.2⟩)⟩, ⟨by (with_reducible repeat (first | apply Kd.R_alloc | apply Kd.R_drewN | apply Kd.R_drew)); exact Kd.R_mono HO_111002.out (fun _ hk => ⟨hk.1.1, hk.1.2⟩)⟩, ⟨by (with_reducible repeat (first | apply Kd.R_alloc | apply Kd.R_drewN | apply Kd.R_drew)); exact Kd.R_mono HO_120002.out (fun _ hk => ⟨hk.1.1, hk.1.2⟩)⟩, ⟨by (with_reducible repeat (first | refine blk_drewN ?_ _ | refine blk_drew ?_ | refine blk_alloc ?_ _)); exact BK110.out⟩, ⟨by (with_reducible repeat (first | refine blk_drewN ?_ _ | refine blk_drew ?_ | refine blk_alloc ?_ _)); exact BK119.out⟩, ⟨by repeat (first | (with_reducible first | exact HB.out | apply below_alloc | apply pw_below_drewN | apply below_drew1 | refine below_set ?_ GE110.out | refine below_set ?_ GE119.out) | exact HB.out)⟩⟩
        ·
         replace c39 := Bool.eq_false_iff.mpr c39
         subst c39
         have H1 : (some false) = some r := by rw [if_neg (show ¬ (false = true) by decide)] at H; exact H
         clear H
         have H := H1
         clear H1
         obtain rfl := Option.some.inj H
         go_wp2
         go_ret
         exact ⟨by first | rfl | (simp [errW_none, errW_some] <;> rfl) | (simp [*, errW_none, errW_some] <;> rfl), by repeat (first | (with_reducible first | exact HB.out | apply below_alloc | apply pw_below_drewN | apply below_drew1 | refine below_set ?_ GE110.out | refine below_set ?_ GE119.out) | exact HB.out)⟩
       case rest =>
        clear HC35
        try clear c1
        try clear c2
        try clear p2
        try clear c3
        try clear c6
        try clear c6b0
        try clear c6b1
        try clear c6b2
        try clear c7
        try clear c9
        try clear c10
        try clear c10b0
        try clear c10b2
        try clear c11
        try clear c14
        try clear c23
        try clear c24
        try clear c27
        try clear c32
        try clear c39
        try clear hcz21_0
        try clear hcz21_1
        try clear hcz21_2
        try clear hcz28_0
        try clear hcz28_1
        try clear hcz28_2
        try clear hcz30_0
        try clear hcz30_1
        try clear hcz30_2
        try clear hfz21_0
        try clear hfz21_1
        try clear hfz21_2
        try clear hfz28_0
        try clear hfz28_1
        try clear hfz28_2
        try clear hfz30_0
        try clear hfz30_1
        try clear hfz30_2
        try clear p2
        obtain ⟨kq, HA, HJ34, HO_11, HO_111002, HO_120002, BK110, BK119, HB⟩ := hcut
        cases kq with
        | zero => exact absurd HA.out (by simp [laws_FnExactSetZ.j3])
        | succ kj34 =>
         have H := HA.out
         clear HA
         simp only [laws_FnExactSetZ.j3] at H
         replace H := Option.bind_eq_some_iff.mp H
         obtain ⟨⟨t125, t126⟩, A400, H⟩ := H
         replace H : (if t125 < 0 then (laws_FnExactSetZ.j4 kj34 l0 a1 a2 a3 true t105 t106 t107 t114 t115 t116) else ((laws_eqZResult.f kj34 t114 t115 t116 t105 t106 t107).bind fun t127 => (laws_FnExactSetZ.j4 kj34 l0 a1 a2 a3 (!t127) t105 t106 t107 t114 t115 t116))) = some r := H
         have A40 := aa A400
         clear A400
         have HC41 := aa H
         clear H
         go_upto_region 16 with (first | ((with_reducible refine gate_callee (f := 15) rfl ?_); refine goesL_ (some 49) rfl rfl Tryd.func15 (by kernel_rfl) rfl #[.slice Ao24 t111.length co24, .int .i64 1] rfl zjnmae ?_; (with_reducible refine (laws_markZnodeS.calls kj34 (fun k_ => some k_ = (.slice Ao24 t111.length co24 : Value).ownBlock) (.slice Ao24 t111.length co24) t111 1 t125 t126 w _ ?side1 ?side2 A40.out).mono ?_); (case side1 => exact zjnifo); (case side2 => exact Kd.R_tight rfl HO_11.out); rintro e w42 ⟨rfl, hy0, hb, hkp⟩; refine ⟨_, rfl, ?_⟩; have n0_ := aa (Kd.R_reok rfl hy0 (fun k_ e_ => HO_11.out.1 k_ e_)); have n1_ := aa (Kd.R_mono (ok' := fun k_ => some k_ ≠ (.slice Ao24 t111.length co24 : Value).ownBlock ∧ some k_ ≠ (.slice Ao29 t116.length co29 : Value).ownBlock) (Kd.R_keptB (HO_111002.out) hkp (fun k_ hk_ hs_ => (hk_.1) hs_)) (fun k_ hk_ => ⟨hk_.1.1, hk_.1.2⟩)); have n2_ := aa (Kd.R_mono (ok' := fun k_ => some k_ ≠ (.slice Ao24 t111.length co24 : Value).ownBlock ∧ some k_ ≠ (.slice Ao22 t107.length co22 : Value).ownBlock) (Kd.R_keptB (HO_120002.out) hkp (fun k_ hk_ hs_ => (hk_.1) hs_)) (fun k_ hk_ => ⟨hk_.1.1, hk_.1.2⟩)); have n3_ := aa (blk_kept (zkjhpm BK110.out) hkp (fun hs_ => (fun e_ => (Kd.R_ne HO_11.out BK110.out (by decide)) e_) hs_)); have n4_ := aa (blk_kept (zkjhpm BK119.out) hkp (fun hs_ => (fun e_ => (Kd.R_ne HO_11.out BK119.out (by decide)) e_) hs_)); have n5_ := aa (hb); clear HO_11; clear HO_111002; clear HO_120002; clear BK110; clear BK119; clear HB; have HO_11 := n0_; have HO_111002 := n1_; have HO_120002 := n2_; have BK110 := n3_; have BK119 := n4_; have HB := n5_; clear n0_ n1_ n2_ n3_ n4_ n5_; (try clear hb); (try clear hkp); (try clear hy0)))
         (try simp only [Act.put, List.setIfInBounds_toArray, List.set_cons_zero, List.set_cons_succ])
         go_cut [57] (fun v57 wc => ∃ (kq : Nat) (x57_40 : Bool), v57 = .bool x57_40 ∧ Aside0 (laws_FnExactSetZ.j4 kq l0 a1 a2 a3 x57_40 t105 t106 t107 t114 t115 t116 = some r) ∧ Aside0 (kq ≤ kj34) ∧ Aside0 (Kd.R k47 47 wc w.heap.size (fun k_ => some k_ ≠ ((.slice Ao29 t116.length co29) : Value).ownBlock) (.slice Ao22 t107.length co22) t107) ∧ Aside0 (Kd.R k47 47 wc w.heap.size (fun k_ => some k_ ≠ ((.slice Ao22 t107.length co22) : Value).ownBlock) (.slice Ao29 t116.length co29) t116) ∧ Aside0 (wc.heap[gb110]? = some (.cells #[.int .i64 t105, .string t106, (.slice Ao22 t107.length co22)] 30 (0, 0))) ∧ Aside0 (wc.heap[gb119]? = some (.cells #[.int .i64 t114, .string t115, (.slice Ao29 t116.length co29)] 30 (0, 0))) ∧ Aside0 (Below w.heap.size w wc))
         case first =>
          have H := HC41.out
          clear HC41
          by_cases c43 : t125 < 0
          ·
           rw [if_pos c43] at H
           have c43b0 : decide (t125 < 0) = true := decide_eq_true c43
           clear c43
           (first | rw [c43b0] | (simp only [i64_w, i32_w]; rw [c43b0]) | (simp only [c43b2, Bool.not_false, Bool.not_true]) | skip)
           have H' := aa H
           clear H
           go_wp2
           go_meet
           case rel => exact ⟨_, (true), zagbkp, H', ⟨by have := HJ4.out; have := HJ7.out; have := HJ15.out; have := HJ34.out; first | omega | exact Nat.le_refl _⟩, ⟨by (with_reducible repeat (first | apply Kd.R_alloc | apply Kd.R_drewN | apply Kd.R_drew)); exact Kd.R_mono HO_111002.out (fun _ hk => hk.2)⟩, ⟨by (with_reducible repeat (first | apply Kd.R_alloc | apply Kd.R_drewN | apply Kd.R_drew)); exact Kd.R_mono HO_120002.out (fun _ hk => hk.2)⟩, ⟨by (with_reducible repeat (first | refine blk_drewN ?_ _ | refine blk_drew ?_ | refine blk_alloc ?_ _)); exact BK110.out⟩, ⟨by (with_reducible repeat (first | refine blk_drewN ?_ _ | refine blk_drew ?_ | refine blk_alloc ?_ _)); exact BK119.out⟩, ⟨by repeat (first | (with_reducible first | exact HB.out | apply below_alloc | apply pw_below_drewN | apply below_drew1 | refine below_set ?_ GE110.out | refine below_set ?_ GE119.out) | exact HB.out)⟩⟩
          ·
           rw [if_neg c43] at H
           have c43b0 : decide (t125 < 0) = false := decide_eq_false c43
           clear c43
           (first | rw [c43b0] | (simp only [i64_w, i32_w]; rw [c43b0]) | (simp only [c43b2, Bool.not_false, Bool.not_true]) | skip)
           replace H := Option.bind_eq_some_iff.mp H
           obtain ⟨t127, A440, H⟩ := H
           replace H : (laws_FnExactSetZ.j4 kj34 l0 a1 a2 a3 (!t127) t105 t106 t107 t114 t115 t116) = some r := H
           have A44 := aa A440
           clear A440
           have H' := aa H
           clear H
           have hnb45 := NB119_110.out
           have hnc45 := NB110_119.out
           have hcz46_0 : w42.cell? ⟨gb119, 0, none⟩ = some (.int .i64 t114) := (blk_cell BK119.out 0).trans rfl
           have hcz46_1 : w42.cell? ⟨gb119, 1, none⟩ = some (.string t115) := (blk_cell BK119.out 1).trans rfl
           have hcz46_2 : w42.cell? ⟨gb119, 2, none⟩ = some (.slice Ao29 t116.length co29) := (blk_cell BK119.out 2).trans rfl
           have hfz46_0 := blk_frozen BK119.out 0
           have hfz46_1 := blk_frozen BK119.out 1
           have hfz46_2 := blk_frozen BK119.out 2
           have hcz47_0 : w42.cell? ⟨gb110, 0, none⟩ = some (.int .i64 t105) := (blk_cell BK110.out 0).trans rfl
           have hcz47_1 : w42.cell? ⟨gb110, 1, none⟩ = some (.string t106) := (blk_cell BK110.out 1).trans rfl
           have hcz47_2 : w42.cell? ⟨gb110, 2, none⟩ = some (.slice Ao22 t107.length co22) := (blk_cell BK110.out 2).trans rfl
           have hfz47_0 := blk_frozen BK110.out 0
           have hfz47_1 := blk_frozen BK110.out 1
           have hfz47_2 := blk_frozen BK110.out 2
           go_wp2_with (first | (go_at_call 14; (with_reducible refine (laws_eqZResult.calls kj34 t114 t115 _ _ t116 t105 t106 _ _ t107 t127 _ ?side1 ?side2 ?side3 ?side4 A44.out).mono ?_); (case side1 => exact zfgpom); (case side2 => exact zfljdm); (case side3 => exact zngbhk); (case side4 => exact zemloo); rintro e w48 ⟨rfl, hb⟩; have n0_ := aa (Kd.R_below (zcaken HO_11.out) hb); have n1_ := aa (Kd.R_below (zcaken HO_111002.out) hb); have n2_ := aa (Kd.R_below (zcaken HO_120002.out) hb); have n3_ := aa (blk_below (g := gb110) (o := .cells #[.int .i64 t105, .string t106, .slice Ao22 t107.length co22] 30 (0, 0)) (zkjhpm BK110.out) hb); have n4_ := aa (blk_below (g := gb119) (o := .cells #[.int .i64 t114, .string t115, .slice Ao29 t116.length co29] 30 (0, 0)) (zkjhpm BK119.out) hb); have n5_ := aa (below_step zjnifo hb); clear HO_11; clear HO_111002; clear HO_120002; clear BK110; clear BK119; clear HB; have HO_11 := n0_; have HO_111002 := n1_; have HO_120002 := n2_; have BK110 := n3_; have BK119 := n4_; have HB := n5_; clear n0_ n1_ n2_ n3_ n4_ n5_; (try clear hb); (try clear hb2); (try clear hk); (try clear hi)))
           go_meet
           case rel => exact ⟨_, (!t127), zagbkp, H', ⟨by have := HJ4.out; have := HJ7.out; have := HJ15.out; have := HJ34.out; first | omega | exact Nat.le_refl _⟩, ⟨by (with_reducible repeat (first | apply Kd.R_alloc | apply Kd.R_drewN | apply Kd.R_drew)); exact Kd.R_mono HO_111002.out (fun _ hk => hk.2)⟩, ⟨by (with_reducible repeat (first | apply Kd.R_alloc | apply Kd.R_drewN | apply Kd.R_drew)); exact Kd.R_mono HO_120002.out (fun _ hk => hk.2)⟩, ⟨by (with_reducible repeat (first | refine blk_drewN ?_ _ | refine blk_drew ?_ | refine blk_alloc ?_ _)); exact BK110.out⟩, ⟨by (with_reducible repeat (first | refine blk_drewN ?_ _ | refine blk_drew ?_ | refine blk_alloc ?_ _)); exact BK119.out⟩, ⟨by repeat (first | (with_reducible first | exact HB.out | apply below_alloc | apply pw_below_drewN | apply below_drew1 | refine below_set ?_ GE110.out | refine below_set ?_ GE119.out) | exact HB.out)⟩⟩
         case rest =>
          clear HC41
          try clear c1
          try clear c2
          try clear p2
          try clear c3
          try clear c4
          try clear c6
          try clear c6b0
          try clear c6b1
          try clear c6b2
          try clear c7
          try clear c9
          try clear c10
          try clear c10b0
          try clear c10b2
          try clear c11
          try clear c14
          try clear c15
          try clear c23
          try clear c24
          try clear c27
          try clear c32
          try clear c39
          try clear c43
          try clear c43b0
          try clear c43b2
          try clear c45
          try clear hcz21_0
          try clear hcz21_1
          try clear hcz21_2
          try clear hcz28_0
          try clear hcz28_1
          try clear hcz28_2
          try clear hcz30_0
          try clear hcz30_1
          try clear hcz30_2
          try clear hcz46_0
          try clear hcz46_1
          try clear hcz46_2
          try clear hcz47_0
          try clear hcz47_1
          try clear hcz47_2
          try clear hfz21_0
          try clear hfz21_1
          try clear hfz21_2
          try clear hfz28_0
          try clear hfz28_1
          try clear hfz28_2
          try clear hfz30_0
          try clear hfz30_1
          try clear hfz30_2
          try clear hfz46_0
          try clear hfz46_1
          try clear hfz46_2
          try clear hfz47_0
          try clear hfz47_1
          try clear hfz47_2
          try clear p2
          obtain ⟨kq, x57_40, rfl, HA, HJ40, HO_111002, HO_120002, BK110, BK119, HB⟩ := hcut
          cases kq with
          | zero => exact absurd HA.out (by simp [laws_FnExactSetZ.j4])
          | succ kj40 =>
           have H := HA.out
           clear HA
           simp only [laws_FnExactSetZ.j4] at H
           have HC49 := aa H
           clear H
           go_upto_if 57 with (fail)
           go_cut [] (fun wc => ∃ (kq : Nat), Aside0 (laws_FnExactSetZ.j5 kq l0 a1 a2 a3 t105 t106 t107 t114 t115 t116 = some r) ∧ Aside0 (kq ≤ kj40) ∧ Aside0 (Kd.R k47 47 wc w.heap.size (fun k_ => some k_ ≠ ((.slice Ao29 t116.length co29) : Value).ownBlock) (.slice Ao22 t107.length co22) t107) ∧ Aside0 (Kd.R k47 47 wc w.heap.size (fun k_ => some k_ ≠ ((.slice Ao22 t107.length co22) : Value).ownBlock) (.slice Ao29 t116.length co29) t116) ∧ Aside0 (wc.heap[gb110]? = some (.cells #[.int .i64 t105, .string t106, (.slice Ao22 t107.length co22)] 30 (0, 0))) ∧ Aside0 (wc.heap[gb119]? = some (.cells #[.int .i64 t114, .string t115, (.slice Ao29 t116.length co29)] 30 (0, 0))) ∧ Aside0 (Below w.heap.size w wc))
           case first =>
            have H := HC49.out
            clear HC49
            by_cases c50 : x57_40 = true
            ·
             subst c50
             have H1 : (some false) = some r := by rw [if_pos rfl] at H; exact H
             clear H
             have H := H1
             clear H1
             obtain rfl := Option.some.inj H
             go_wp2
             go_ret
             exact ⟨by first | rfl | (simp [errW_none, errW_some] <;> rfl) | (simp [*, errW_none, errW_some] <;> rfl), by repeat (first | (with_reducible first | exact HB.out | apply below_alloc | apply pw_below_drewN | apply below_drew1 | refine below_set ?_ GE110.out | refine below_set ?_ GE119.out) | exact HB.out)⟩
            ·
             replace c50 := Bool.eq_false_iff.mpr c50
             subst c50
             have H1 : (laws_FnExactSetZ.j5 kj40 l0 a1 a2 a3 t105 t106 t107 t114 t115 t116) = some r := by rw [if_neg (show ¬ (false = true) by decide)] at H; exact H
             clear H
             have H := H1
             clear H1
             have H' := aa H
             clear H
             go_wp2
             go_meet
             case rel => exact ⟨_, H', ⟨by have := HJ4.out; have := HJ7.out; have := HJ15.out; have := HJ34.out; have := HJ40.out; first | omega | exact Nat.le_refl _⟩, ⟨by (with_reducible repeat (first | apply Kd.R_alloc | apply Kd.R_drewN | apply Kd.R_drew)); exact HO_111002.out⟩, ⟨by (with_reducible repeat (first | apply Kd.R_alloc | apply Kd.R_drewN | apply Kd.R_drew)); exact HO_120002.out⟩, ⟨by (with_reducible repeat (first | refine blk_drewN ?_ _ | refine blk_drew ?_ | refine blk_alloc ?_ _)); exact BK110.out⟩, ⟨by (with_reducible repeat (first | refine blk_drewN ?_ _ | refine blk_drew ?_ | refine blk_alloc ?_ _)); exact BK119.out⟩, ⟨by repeat (first | (with_reducible first | exact HB.out | apply below_alloc | apply pw_below_drewN | apply below_drew1 | refine below_set ?_ GE110.out | refine below_set ?_ GE119.out) | exact HB.out)⟩⟩
           case rest =>
            clear HC49
            try clear c1
            try clear c2
            try clear p2
            try clear c3
            try clear c4
            try clear c5
            try clear c6
            try clear c6b0
            try clear c6b1
            try clear c6b2
            try clear c7
            try clear c9
            try clear c10
            try clear c10b0
            try clear c10b2
            try clear c11
            try clear c14
            try clear c15
            try clear c23
            try clear c24
            try clear c27
            try clear c32
            try clear c39
            try clear c43
            try clear c43b0
            try clear c43b2
            try clear c45
            try clear c50
            try clear hcz21_0
            try clear hcz21_1
            try clear hcz21_2
            try clear hcz28_0
            try clear hcz28_1
            try clear hcz28_2
            try clear hcz30_0
            try clear hcz30_1
            try clear hcz30_2
            try clear hcz46_0
            try clear hcz46_1
            try clear hcz46_2
            try clear hcz47_0
            try clear hcz47_1
            try clear hcz47_2
            try clear hfz21_0
            try clear hfz21_1
            try clear hfz21_2
            try clear hfz28_0
            try clear hfz28_1
            try clear hfz28_2
            try clear hfz30_0
            try clear hfz30_1
            try clear hfz30_2
            try clear hfz46_0
            try clear hfz46_1
            try clear hfz46_2
            try clear hfz47_0
            try clear hfz47_1
            try clear hfz47_2
            try clear p2
            obtain ⟨kq, HA, HJ48, HO_111002, HO_120002, BK110, BK119, HB⟩ := hcut
            cases kq with
            | zero => exact absurd HA.out (by simp [laws_FnExactSetZ.j5])
            | succ kj48 =>
             have H := HA.out
             clear HA
             simp only [laws_FnExactSetZ.j5] at H
             replace H := Option.bind_eq_some_iff.mp H
             obtain ⟨⟨t128, t129⟩, A510, H⟩ := H
             replace H : ((laws_heldZResult.f kj48 t114 t115 t129 1).bind fun t130 => (if t130 < 0 then (some false) else (laws_FnExactSetZ.j6 kj48 l0 a1 a2 a3 t128 t130 t105 t106 t107 t114 t115 t129))) = some r := H
             have A51 := aa A510
             clear A510
             replace H := Option.bind_eq_some_iff.mp H
             obtain ⟨t130, A520, H⟩ := H
             replace H : (if t130 < 0 then (some false) else (laws_FnExactSetZ.j6 kj48 l0 a1 a2 a3 t128 t130 t105 t106 t107 t114 t115 t129)) = some r := H
             have A52 := aa A520
             clear A520
             have HC53 := aa H
             clear H
             have hnb54 := NB119_110.out
             have hnc54 := NB110_119.out
             have hcz55_0 : wc.cell? ⟨gb119, 0, none⟩ = some (.int .i64 t114) := (blk_cell BK119.out 0).trans rfl
             have hcz55_1 : wc.cell? ⟨gb119, 1, none⟩ = some (.string t115) := (blk_cell BK119.out 1).trans rfl
             have hcz55_2 : wc.cell? ⟨gb119, 2, none⟩ = some (.slice Ao29 t116.length co29) := (blk_cell BK119.out 2).trans rfl
             have hfz55_0 := blk_frozen BK119.out 0
             have hfz55_1 := blk_frozen BK119.out 1
             have hfz55_2 := blk_frozen BK119.out 2
             go_upto_if 65 with (first | ((with_reducible refine gate_callee (f := 16) rfl ?_); refine goesL_ (some 60) rfl rfl Tryd.func16 (by kernel_rfl) rfl #[.agg #[.int .i64 t114, .string t115, .slice Ao29 t116.length co29], .int .i64 1] rfl zjnmae ?_; (with_reducible refine (laws_markZResult.calls kj48 t114 t115 (fun k_ => some k_ = (.slice Ao29 t116.length co29 : Value).ownBlock) (.slice Ao29 t116.length co29) t116 1 t128 t129 w _ ?side1 ?side2 A51.out).mono ?_); (case side1 => exact zjnifo); (case side2 => exact Kd.R_tight rfl HO_120002.out); rintro e w56 ⟨rfl, hy0, hb, hkp⟩; refine ⟨_, rfl, ?_⟩; have n0_ := aa (Kd.R_mono (ok' := fun k_ => some k_ ≠ (.slice Ao29 t116.length co29 : Value).ownBlock) (Kd.R_keptB (HO_111002.out) hkp (fun k_ hk_ hs_ => (hk_) hs_)) (fun k_ hk_ => hk_.1)); have n1_ := aa (Kd.R_reok rfl hy0 (fun k_ e_ => HO_120002.out.1 k_ e_)); have n2_ := aa (blk_kept (zkjhpm BK110.out) hkp (fun hs_ => (fun e_ => (Kd.R_ne HO_120002.out BK110.out (by decide)) e_) hs_)); have n3_ := aa (blk_kept (zkjhpm BK119.out) hkp (fun hs_ => (fun e_ => (Kd.R_ne HO_120002.out BK119.out (by decide)) e_) hs_)); have n4_ := aa (hb); clear HO_111002; clear HO_120002; clear BK110; clear BK119; clear HB; have HO_111002 := n0_; have HO_120002 := n1_; have BK110 := n2_; have BK119 := n3_; have HB := n4_; clear n0_ n1_ n2_ n3_ n4_; (try clear hb); (try clear hkp); (try clear hy0); have hcz57_0 : w56.cell? ⟨gb119, 0, none⟩ = some (.int .i64 t114) := (blk_cell BK119.out 0).trans rfl; have hcz57_1 : w56.cell? ⟨gb119, 1, none⟩ = some (.string t115) := (blk_cell BK119.out 1).trans rfl; have hcz57_2 : w56.cell? ⟨gb119, 2, none⟩ = some (.slice Ao29 t116.length co29) := (blk_cell BK119.out 2).trans rfl; have hfz57_0 := blk_frozen BK119.out 0; have hfz57_1 := blk_frozen BK119.out 1; have hfz57_2 := blk_frozen BK119.out 2) | ((with_reducible refine gate_callee (f := 17) rfl ?_); refine goesL_ (some 63) rfl rfl Tryd.func17 (by kernel_rfl) rfl #[.agg #[.int .i64 t114, .string t115, .slice Ao29 t129.length co29], .int .i64 1] rfl zeigio ?_; (with_reducible refine (laws_heldZResult.calls kj48 t114 t115 _ _ t129 1 t130 _ ?side1 ?side2 A52.out).mono ?_); (case side1 => exact zfgpom); (case side2 => exact zlafdo); rintro e w58 ⟨rfl, hb⟩; refine ⟨_, rfl, ?_⟩; have n0_ := aa (Kd.R_below (zcaken HO_111002.out) hb); have n1_ := aa (Kd.R_below (zcaken HO_120002.out) hb); have n2_ := aa (blk_below (g := gb110) (o := .cells #[.int .i64 t105, .string t106, .slice Ao22 t107.length co22] 30 (0, 0)) (zkjhpm BK110.out) hb); have n3_ := aa (blk_below (g := gb119) (o := .cells #[.int .i64 t114, .string t115, .slice Ao29 t116.length co29] 30 (0, 0)) (zkjhpm BK119.out) hb); have n4_ := aa (below_step zjnifo hb); clear HO_111002; clear HO_120002; clear BK110; clear BK119; clear HB; have HO_111002 := n0_; have HO_120002 := n1_; have BK110 := n2_; have BK119 := n3_; have HB := n4_; clear n0_ n1_ n2_ n3_ n4_; (try clear hb); (try clear hb2); (try clear hk); (try clear hi)))
             (try simp only [Act.put, List.setIfInBounds_toArray, List.set_cons_zero, List.set_cons_succ])
             go_cut [] (fun wc => ∃ (kq : Nat), Aside0 (laws_FnExactSetZ.j6 kq l0 a1 a2 a3 t128 t130 t105 t106 t107 t114 t115 t129 = some r) ∧ Aside0 (kq ≤ kj48) ∧ Aside0 (Kd.R k47 47 wc w.heap.size (fun k_ => some k_ ≠ ((.slice Ao29 t116.length co29) : Value).ownBlock) (.slice Ao22 t107.length co22) t107) ∧ Aside0 (Kd.R k47 47 wc w.heap.size (fun k_ => some k_ ≠ ((.slice Ao22 t107.length co22) : Value).ownBlock) (.slice Ao29 t116.length co29) t129) ∧ Aside0 (wc.heap[gb110]? = some (.cells #[.int .i64 t105, .string t106, (.slice Ao22 t107.length co22)] 30 (0, 0))) ∧ Aside0 (wc.heap[gb119]? = some (.cells #[.int .i64 t114, .string t115, (.slice Ao29 t116.length co29)] 30 (0, 0))) ∧ Aside0 (Below w.heap.size w wc))
             case first =>
              have H := HC53.out
              clear HC53
              by_cases c59 : t130 < 0
              ·
               rw [if_pos c59] at H
               have c59b0 : decide (t130 < 0) = true := decide_eq_true c59
               clear c59
               (first | rw [c59b0] | (simp only [i64_w, i32_w]; rw [c59b0]) | (simp only [c59b2, Bool.not_false, Bool.not_true]) | skip)
               obtain rfl := Option.some.inj H
               go_wp2
               go_ret
               exact ⟨by first | rfl | (simp [errW_none, errW_some] <;> rfl) | (simp [*, errW_none, errW_some] <;> rfl), by repeat (first | (with_reducible first | exact HB.out | apply below_alloc | apply pw_below_drewN | apply below_drew1 | refine below_set ?_ GE110.out | refine below_set ?_ GE119.out) | exact HB.out)⟩
              ·
               rw [if_neg c59] at H
               have c59b0 : decide (t130 < 0) = false := decide_eq_false c59
               clear c59
               (first | rw [c59b0] | (simp only [i64_w, i32_w]; rw [c59b0]) | (simp only [c59b2, Bool.not_false, Bool.not_true]) | skip)
               have H' := aa H
               clear H
               go_wp2
               go_meet
               case rel => exact ⟨_, H', ⟨by have := HJ4.out; have := HJ7.out; have := HJ15.out; have := HJ34.out; have := HJ40.out; have := HJ48.out; first | omega | exact Nat.le_refl _⟩, ⟨by (with_reducible repeat (first | apply Kd.R_alloc | apply Kd.R_drewN | apply Kd.R_drew)); exact HO_111002.out⟩, ⟨by (with_reducible repeat (first | apply Kd.R_alloc | apply Kd.R_drewN | apply Kd.R_drew)); exact HO_120002.out⟩, ⟨by (with_reducible repeat (first | refine blk_drewN ?_ _ | refine blk_drew ?_ | refine blk_alloc ?_ _)); exact BK110.out⟩, ⟨by (with_reducible repeat (first | refine blk_drewN ?_ _ | refine blk_drew ?_ | refine blk_alloc ?_ _)); exact BK119.out⟩, ⟨by repeat (first | (with_reducible first | exact HB.out | apply below_alloc | apply pw_below_drewN | apply below_drew1 | refine below_set ?_ GE110.out | refine below_set ?_ GE119.out) | exact HB.out)⟩⟩
             case rest =>
              clear HC53
              try clear c1
              try clear c2
              try clear p2
              try clear c3
              try clear c4
              try clear c5
              try clear c6
              try clear c6b0
              try clear c6b1
              try clear c6b2
              try clear c7
              try clear c9
              try clear c10
              try clear c10b0
              try clear c10b2
              try clear c11
              try clear c14
              try clear c15
              try clear c16
              try clear c17
              try clear c23
              try clear c24
              try clear c27
              try clear c32
              try clear c39
              try clear c43
              try clear c43b0
              try clear c43b2
              try clear c45
              try clear c50
              try clear c54
              try clear c59
              try clear c59b0
              try clear c59b2
              try clear hcz21_0
              try clear hcz21_1
              try clear hcz21_2
              try clear hcz28_0
              try clear hcz28_1
              try clear hcz28_2
              try clear hcz30_0
              try clear hcz30_1
              try clear hcz30_2
              try clear hcz46_0
              try clear hcz46_1
              try clear hcz46_2
              try clear hcz47_0
              try clear hcz47_1
              try clear hcz47_2
              try clear hcz55_0
              try clear hcz55_1
              try clear hcz55_2
              try clear hcz57_0
              try clear hcz57_1
              try clear hcz57_2
              try clear hfz21_0
              try clear hfz21_1
              try clear hfz21_2
              try clear hfz28_0
              try clear hfz28_1
              try clear hfz28_2
              try clear hfz30_0
              try clear hfz30_1
              try clear hfz30_2
              try clear hfz46_0
              try clear hfz46_1
              try clear hfz46_2
              try clear hfz47_0
              try clear hfz47_1
              try clear hfz47_2
              try clear hfz55_0
              try clear hfz55_1
              try clear hfz55_2
              try clear hfz57_0
              try clear hfz57_1
              try clear hfz57_2
              try clear p2
              obtain ⟨kq, HA, HJ52, HO_111002, HO_120002, BK110, BK119, HB⟩ := hcut
              have hl120002_52 := (Kd.R_reads' HO_120002.out).1
              rw [hl120002_52] at HO_120002
              (try simp only [hl120002_52])
              (try simp only [hl120002_52] at BK110)
              (try simp only [hl120002_52] at BK119)
              (try simp only [hl120002_52] at HO_111002)
              cases kq with
              | zero => exact absurd HA.out (by simp [laws_FnExactSetZ.j6])
              | succ kj52 =>
               have H := HA.out
               clear HA
               simp only [laws_FnExactSetZ.j6] at H
               have HC60 := aa H
               clear H
               go_upto_if 68 with (fail)
               go_cut [] (fun wc => ∃ (kq : Nat), Aside0 (laws_FnExactSetZ.j7 kq l0 a1 a2 a3 t128 t105 t106 t107 t114 t115 t129 = some r) ∧ Aside0 (kq ≤ kj52) ∧ Aside0 (Kd.R k47 47 wc w.heap.size (fun k_ => some k_ ≠ ((.slice Ao29 t129.length co29) : Value).ownBlock) (.slice Ao22 t107.length co22) t107) ∧ Aside0 (Kd.R k47 47 wc w.heap.size (fun k_ => some k_ ≠ ((.slice Ao22 t107.length co22) : Value).ownBlock) (.slice Ao29 t129.length co29) t129) ∧ Aside0 (wc.heap[gb110]? = some (.cells #[.int .i64 t105, .string t106, (.slice Ao22 t107.length co22)] 30 (0, 0))) ∧ Aside0 (wc.heap[gb119]? = some (.cells #[.int .i64 t114, .string t115, (.slice Ao29 t129.length co29)] 30 (0, 0))) ∧ Aside0 (Below w.heap.size w wc))
               case first =>
                have H := HC60.out
                clear HC60
                by_cases c61 : t130 = t128
                ·
                 rw [if_pos c61] at H
                 have c61b0 : (t130 == t128) = true := beq_iff_eq.mpr c61
                 have c61b1 : (t130 != t128) = false := bne_eq_false_iff_eq.mpr c61
                 clear c61
                 (first | rw [c61b0] | (simp only [i64_w, i32_w]; rw [c61b0]) | (simp only [c61b2, Bool.not_false, Bool.not_true]) | skip)
                 have H' := aa H
                 clear H
                 go_wp2
                 go_meet
                 case rel => exact ⟨_, H', ⟨by have := HJ4.out; have := HJ7.out; have := HJ15.out; have := HJ34.out; have := HJ40.out; have := HJ48.out; have := HJ52.out; first | omega | exact Nat.le_refl _⟩, ⟨by (try simp only [hl120002_52]); (with_reducible repeat (first | apply Kd.R_alloc | apply Kd.R_drewN | apply Kd.R_drew)); exact HO_111002.out⟩, ⟨by (try simp only [hl120002_52]); (with_reducible repeat (first | apply Kd.R_alloc | apply Kd.R_drewN | apply Kd.R_drew)); exact HO_120002.out⟩, ⟨by (try simp only [hl120002_52]); (with_reducible repeat (first | refine blk_drewN ?_ _ | refine blk_drew ?_ | refine blk_alloc ?_ _)); exact BK110.out⟩, ⟨by (try simp only [hl120002_52]); (with_reducible repeat (first | refine blk_drewN ?_ _ | refine blk_drew ?_ | refine blk_alloc ?_ _)); exact BK119.out⟩, ⟨by repeat (first | (with_reducible first | exact HB.out | apply below_alloc | apply pw_below_drewN | apply below_drew1 | refine below_set ?_ GE110.out | refine below_set ?_ GE119.out) | exact HB.out)⟩⟩
                ·
                 rw [if_neg c61] at H
                 have c61b0 : (t130 == t128) = false := beq_eq_false_iff_ne.mpr c61
                 have c61b1 : (t130 != t128) = true := bne_iff_ne.mpr c61
                 (first | rw [c61b0] | (simp only [i64_w, i32_w]; rw [c61b0]) | (simp only [c61b2, Bool.not_false, Bool.not_true]) | skip)
                 obtain rfl := Option.some.inj H
                 go_wp2
                 go_ret
                 exact ⟨by first | rfl | (simp [errW_none, errW_some] <;> rfl) | (simp [*, errW_none, errW_some] <;> rfl), by repeat (first | (with_reducible first | exact HB.out | apply below_alloc | apply pw_below_drewN | apply below_drew1 | refine below_set ?_ GE110.out | refine below_set ?_ GE119.out) | exact HB.out)⟩
               case rest =>
                clear HC60
                try clear c1
                try clear c2
                try clear p2
                try clear c3
                try clear c4
                try clear c5
                try clear c6
                try clear c6b0
                try clear c6b1
                try clear c6b2
                try clear c7
                try clear c9
                try clear c10
                try clear c10b0
                try clear c10b2
                try clear c11
                try clear c14
                try clear c15
                try clear c16
                try clear c17
                try clear c23
                try clear c24
                try clear c27
                try clear c32
                try clear c39
                try clear c43
                try clear c43b0
                try clear c43b2
                try clear c45
                try clear c50
                try clear c54
                try clear c59
                try clear c59b0
                try clear c59b2
                try clear c61
                try clear c61b0
                try clear c61b1
                try clear c61b2
                try clear hcz21_0
                try clear hcz21_1
                try clear hcz21_2
                try clear hcz28_0
                try clear hcz28_1
                try clear hcz28_2
                try clear hcz30_0
                try clear hcz30_1
                try clear hcz30_2
                try clear hcz46_0
                try clear hcz46_1
                try clear hcz46_2
                try clear hcz47_0
                try clear hcz47_1
                try clear hcz47_2
                try clear hcz55_0
                try clear hcz55_1
                try clear hcz55_2
                try clear hcz57_0
                try clear hcz57_1
                try clear hcz57_2
                try clear hfz21_0
                try clear hfz21_1
                try clear hfz21_2
                try clear hfz28_0
                try clear hfz28_1
                try clear hfz28_2
                try clear hfz30_0
                try clear hfz30_1
                try clear hfz30_2
                try clear hfz46_0
                try clear hfz46_1
                try clear hfz46_2
                try clear hfz47_0
                try clear hfz47_1
                try clear hfz47_2
                try clear hfz55_0
                try clear hfz55_1
                try clear hfz55_2
                try clear hfz57_0
                try clear hfz57_1
                try clear hfz57_2
                try clear p2
                obtain ⟨kq, HA, HJ59, HO_111002, HO_120002, BK110, BK119, HB⟩ := hcut
                cases kq with
                | zero => exact absurd HA.out (by simp [laws_FnExactSetZ.j7])
                | succ kj59 =>
                 have H := HA.out
                 clear HA
                 simp only [laws_FnExactSetZ.j7] at H
                 replace H := Option.bind_eq_some_iff.mp H
                 obtain ⟨t131, A620, H⟩ := H
                 replace H : ((impl_SetZ.f kj59 t131 a1 a2 a3).bind fun bt134 => ((laws_eqZResult.f kj59 bt134.1 bt134.2.1 bt134.2.2 t105 t106 t107).bind fun t140 => (if t140 = true then (laws_FnExactSetZ.j8 kj59 t128 t114 t115 t129) else (some false)))) = some r := H
                 have A62 := aa A620
                 clear A620
                 replace H := Option.bind_eq_some_iff.mp H
                 obtain ⟨⟨t134, t135, t136⟩, A630, H⟩ := H
                 replace H : ((laws_eqZResult.f kj59 t134 t135 t136 t105 t106 t107).bind fun t140 => (if t140 = true then (laws_FnExactSetZ.j8 kj59 t128 t114 t115 t129) else (some false))) = some r := H
                 have A63 := aa A630
                 clear A630
                 replace H := Option.bind_eq_some_iff.mp H
                 obtain ⟨t140, A640, H⟩ := H
                 replace H : (if t140 = true then (laws_FnExactSetZ.j8 kj59 t128 t114 t115 t129) else (some false)) = some r := H
                 have A64 := aa A640
                 clear A640
                 have HC65 := aa H
                 clear H
                 go_upto_if 78 with (first | ((with_reducible refine gate_callee (f := 9) rfl ?_); refine goesL_ (some 70) rfl rfl Tryd.func9 (by kernel_rfl) rfl #[.slice A0 l0.length c0] rfl zjnmae ?_; (with_reducible refine (laws_toZnodeS.calls kj59 _ _ l0 t131 _ ?side1 ?side2 A62.out).mono ?_); (case side1 => exact zfmbgg); (case side2 => exact HC0.out); rintro e w66 ⟨v132, rfl, ho0, hb⟩; refine ⟨_, rfl, ?_⟩; have n0_ := aa (Kd.R_elder' (zcaken HO_111002.out) (Kd.R_base ho0) hb); have n1_ := aa (Kd.R_elder' (zcaken HO_120002.out) (Kd.R_base ho0) hb); have n2_ := aa (Kd.R_lower (Kd.R_new' (Kd.R_new' ho0 (Kd.R_lt (zcaken HO_111002.out))) (Kd.R_lt (zcaken HO_120002.out))) (below_size zjnifo)); have n3_ := aa (blk_below (g := gb110) (o := .cells #[.int .i64 t105, .string t106, .slice Ao22 t107.length co22] 30 (0, 0)) (zkjhpm BK110.out) hb); have n4_ := aa (blk_below (g := gb119) (o := .cells #[.int .i64 t114, .string t115, .slice Ao29 t129.length co29] 30 (0, 0)) (zkjhpm BK119.out) hb); have n5_ := aa (below_step zjnifo hb); clear HO_111002; clear HO_120002; clear BK110; clear BK119; clear HB; have HO_111002 := n0_; have HO_120002 := n1_; have HO133 := n2_; have BK110 := n3_; have BK119 := n4_; have HB := n5_; clear n0_ n1_ n2_ n3_ n4_ n5_; (try clear hb); (try clear hb2); (try clear hk); (try clear hi); (try clear ho0); obtain ⟨Ao67, co67, eo67⟩ := Kd.R_slice HO133.out; subst eo67) | ((with_reducible refine gate_callee (f := 24) rfl ?_); refine goesL_ (some 74) rfl rfl Tryd.func24 (by kernel_rfl) rfl #[.slice Ao67 t131.length co67, .string a1, .int .i64 a2, .int .i64 a3] rfl zjnmae ?_; (with_reducible refine (impl_SetZ.calls kj59 _ _ t131 a1 a2 a3 t134 t135 t136 _ ?side1 ?side2 A63.out).mono ?_); (case side1 => exact zljjjb); (case side2 => exact (Kd.R_reads' HO133.out).2.1); rintro e w68 ⟨v137, rfl, ho0, hb⟩; refine ⟨_, rfl, ?_⟩; have n0_ := aa (Kd.R_elder' (zcaken HO_111002.out) (Kd.R_base ho0) hb); have n1_ := aa (Kd.R_elder' (zcaken HO_120002.out) (Kd.R_base ho0) hb); have n2_ := aa (Kd.R_elder' (zcaken HO133.out) (Kd.R_base ho0) hb); have n3_ := aa (Kd.R_lower (Kd.R_new' (Kd.R_new' (Kd.R_new' ho0 (Kd.R_lt (zcaken HO_111002.out))) (Kd.R_lt (zcaken HO_120002.out))) (Kd.R_lt (zcaken HO133.out))) (below_size zjnifo)); have n4_ := aa (blk_below (g := gb110) (o := .cells #[.int .i64 t105, .string t106, .slice Ao22 t107.length co22] 30 (0, 0)) (zkjhpm BK110.out) hb); have n5_ := aa (blk_below (g := gb119) (o := .cells #[.int .i64 t114, .string t115, .slice Ao29 t129.length co29] 30 (0, 0)) (zkjhpm BK119.out) hb); have n6_ := aa (below_step zjnifo hb); clear HO_111002; clear HO_120002; clear HO133; clear BK110; clear BK119; clear HB; have HO_111002 := n0_; have HO_120002 := n1_; have HO133 := n2_; have HO138 := n3_; have BK110 := n4_; have BK119 := n5_; have HB := n6_; clear n0_ n1_ n2_ n3_ n4_ n5_ n6_; (try clear hb); (try clear hb2); (try clear hk); (try clear hi); (try clear ho0)) | ((with_reducible refine gate_dst (N := 16) rfl ?_); refine box_event ?hg (N := 16) ?hd (cs := #[.int .i64 0, .string (⟨#[]⟩ : ByteArray), .slice none 0 0]) (t := 30) ?hr ?_; (case hd => rfl); (case hg => rfl); (case hr => exact zhlgcp); intro gb139 hg w69 hbox hb; have n0_ := aa (Kd.R_below (zcaken HO_111002.out) hb); have n1_ := aa (Kd.R_below (zcaken HO_120002.out) hb); have n2_ := aa (Kd.R_below (zcaken HO133.out) hb); have n3_ := aa (Kd.R_below (zcaken HO138.out) hb); have n4_ := aa (blk_below (g := gb110) (o := .cells #[.int .i64 t105, .string t106, .slice Ao22 t107.length co22] 30 (0, 0)) (zkjhpm BK110.out) hb); have n5_ := aa (blk_below (g := gb119) (o := .cells #[.int .i64 t114, .string t115, .slice Ao29 t129.length co29] 30 (0, 0)) (zkjhpm BK119.out) hb); have n6_ := aa (below_step zjnifo hb); have n7_ := aa (hbox); have n8_ := aa ((zobglo : w.heap.size ≤ gb139)); have n9_ := aa ((zobglo : w.heap.size ≤ gb139)); have n10_ := aa ((zfmgid : gb110 ≠ gb139)); have n11_ := aa ((zkdfmf : gb139 ≠ gb110)); have n12_ := aa ((by rw [hg]; exact Nat.ne_of_lt (blk_lt (g := gb119) (o := .cells #[.int .i64 t114, .string t115, .slice Ao29 t129.length co29] 30 (0, 0)) (zkjhpm BK119.out)) : gb119 ≠ gb139)); have n13_ := aa ((by rw [hg]; exact Nat.ne_of_gt (blk_lt (g := gb119) (o := .cells #[.int .i64 t114, .string t115, .slice Ao29 t129.length co29] 30 (0, 0)) (zkjhpm BK119.out)) : gb139 ≠ gb119)); clear HO_111002; clear HO_120002; clear HO133; clear HO138; clear BK110; clear BK119; clear HB; have HO_111002 := n0_; have HO_120002 := n1_; have HO133 := n2_; have HO138 := n3_; have BK110 := n4_; have BK119 := n5_; have HB := n6_; have BK139 := n7_; have GW139 := n8_; have GE139 := n9_; have NB110_139 := n10_; have NB139_110 := n11_; have NB119_139 := n12_; have NB139_119 := n13_; clear n0_ n1_ n2_ n3_ n4_ n5_ n6_ n7_ n8_ n9_ n10_ n11_ n12_ n13_; clear hb hbox hg; have hnb70 := NB139_110.out; have hnc70 := NB110_139.out; have hnb71 := NB139_119.out; have hnc71 := NB119_139.out; have hcz72_0 : w69.cell? ⟨gb139, 0, none⟩ = some (.int .i64 0) := (blk_cell BK139.out 0).trans rfl; have hcz72_1 : w69.cell? ⟨gb139, 1, none⟩ = some (.string (⟨#[]⟩ : ByteArray)) := (blk_cell BK139.out 1).trans rfl; have hcz72_2 : w69.cell? ⟨gb139, 2, none⟩ = some (.slice none 0 0) := (blk_cell BK139.out 2).trans rfl; have hfz72_0 := blk_frozen BK139.out 0; have hfz72_1 := blk_frozen BK139.out 1; have hfz72_2 := blk_frozen BK139.out 2; obtain ⟨Ao73, co73, eo73⟩ := Kd.R_slice HO138.out; subst eo73; have hnb74 := NB110_119.out; have hnc74 := NB119_110.out; have hcz75_0 : w69.cell? ⟨gb110, 0, none⟩ = some (.int .i64 t105) := (blk_cell BK110.out 0).trans rfl; have hcz75_1 : w69.cell? ⟨gb110, 1, none⟩ = some (.string t106) := (blk_cell BK110.out 1).trans rfl; have hcz75_2 : w69.cell? ⟨gb110, 2, none⟩ = some (.slice Ao22 t107.length co22) := (blk_cell BK110.out 2).trans rfl; have hfz75_0 := blk_frozen BK110.out 0; have hfz75_1 := blk_frozen BK110.out 1; have hfz75_2 := blk_frozen BK110.out 2) | ((with_reducible refine gate_callee (f := 14) rfl ?_); refine goesL_ (some 77) rfl rfl Tryd.func14 (by kernel_rfl) rfl #[.agg #[.int .i64 t134, .string t135, .slice Ao73 t136.length co73], .agg #[.int .i64 t105, .string t106, .slice Ao22 t107.length co22]] rfl zjnmae ?_; (with_reducible refine (laws_eqZResult.calls kj59 t134 t135 _ _ t136 t105 t106 _ _ t107 t140 _ ?side1 ?side2 ?side3 ?side4 A64.out).mono ?_); (case side1 => refine (Kd.R_reads' (e := 47) (base := w.heap.size) (ok := fun k_ => (((True ∧ some k_ ≠ (.slice Ao22 t107.length co22 : Value).ownBlock) ∧ some k_ ≠ (.slice Ao29 t129.length co29 : Value).ownBlock) ∧ some k_ ≠ (.slice Ao67 t131.length co67 : Value).ownBlock)) (n := t136.length) (c := co73) ?_).2.2; exact (by (with_reducible repeat (first | apply Kd.R_alloc | apply Kd.R_drewN | apply Kd.R_drew)); exact (Kd.R_mono (Kd.R_far (p := ⟨gb139, 2, none⟩) (Kd.R_far (p := ⟨gb139, 1, none⟩) (Kd.R_far (p := ⟨gb139, 0, none⟩) (Kd.R_types HO138.out BK139.out (by decide)) (fun _ hk => hk.2) (.int .i64 t134)) (fun _ hk => hk.2) (.string t135)) (fun _ hk => hk.2) (.slice Ao73 t136.length co73)) (fun _ h_ => h_.1)))); (case side2 => exact (Kd.R_reads' HO138.out).2.1); (case side3 => refine (Kd.R_reads' (e := 47) (base := w.heap.size) (ok := fun k_ => ((some k_ ≠ (.slice Ao29 t129.length co29 : Value).ownBlock ∧ some k_ ≠ (.slice Ao67 t131.length co67 : Value).ownBlock) ∧ some k_ ≠ (.slice Ao73 t136.length co73 : Value).ownBlock)) (n := t107.length) (c := co22) ?_).2.2; exact (by (with_reducible repeat (first | apply Kd.R_alloc | apply Kd.R_drewN | apply Kd.R_drew)); exact (Kd.R_mono (Kd.R_far (p := ⟨gb139, 2, none⟩) (Kd.R_far (p := ⟨gb139, 1, none⟩) (Kd.R_far (p := ⟨gb139, 0, none⟩) (Kd.R_types HO_111002.out BK139.out (by decide)) (fun _ hk => hk.2) (.int .i64 t134)) (fun _ hk => hk.2) (.string t135)) (fun _ hk => hk.2) (.slice Ao73 t136.length co73)) (fun _ h_ => h_.1)))); (case side4 => exact zemloo); rintro e w76 ⟨rfl, hb⟩; refine ⟨_, rfl, ?_⟩; have n0_ := aa (Kd.R_below (by (with_reducible repeat (first | apply Kd.R_alloc | apply Kd.R_drewN | apply Kd.R_drew)); exact (Kd.R_mono (Kd.R_far (p := ⟨gb139, 2, none⟩) (Kd.R_far (p := ⟨gb139, 1, none⟩) (Kd.R_far (p := ⟨gb139, 0, none⟩) (Kd.R_types HO_111002.out BK139.out (by decide)) (fun _ hk => hk.2) (.int .i64 t134)) (fun _ hk => hk.2) (.string t135)) (fun _ hk => hk.2) (.slice Ao73 t136.length co73)) (fun _ h_ => h_.1))) hb); have n1_ := aa (Kd.R_below (by (with_reducible repeat (first | apply Kd.R_alloc | apply Kd.R_drewN | apply Kd.R_drew)); exact (Kd.R_mono (Kd.R_far (p := ⟨gb139, 2, none⟩) (Kd.R_far (p := ⟨gb139, 1, none⟩) (Kd.R_far (p := ⟨gb139, 0, none⟩) (Kd.R_types HO_120002.out BK139.out (by decide)) (fun _ hk => hk.2) (.int .i64 t134)) (fun _ hk => hk.2) (.string t135)) (fun _ hk => hk.2) (.slice Ao73 t136.length co73)) (fun _ h_ => h_.1))) hb); have n2_ := aa (Kd.R_below (by (with_reducible repeat (first | apply Kd.R_alloc | apply Kd.R_drewN | apply Kd.R_drew)); exact (Kd.R_mono (Kd.R_far (p := ⟨gb139, 2, none⟩) (Kd.R_far (p := ⟨gb139, 1, none⟩) (Kd.R_far (p := ⟨gb139, 0, none⟩) (Kd.R_types HO133.out BK139.out (by decide)) (fun _ hk => hk.2) (.int .i64 t134)) (fun _ hk => hk.2) (.string t135)) (fun _ hk => hk.2) (.slice Ao73 t136.length co73)) (fun _ h_ => h_.1))) hb); have n3_ := aa (Kd.R_below (by (with_reducible repeat (first | apply Kd.R_alloc | apply Kd.R_drewN | apply Kd.R_drew)); exact (Kd.R_mono (Kd.R_far (p := ⟨gb139, 2, none⟩) (Kd.R_far (p := ⟨gb139, 1, none⟩) (Kd.R_far (p := ⟨gb139, 0, none⟩) (Kd.R_types HO138.out BK139.out (by decide)) (fun _ hk => hk.2) (.int .i64 t134)) (fun _ hk => hk.2) (.string t135)) (fun _ hk => hk.2) (.slice Ao73 t136.length co73)) (fun _ h_ => h_.1))) hb); have n4_ := aa (blk_below (g := gb110) (o := .cells #[.int .i64 t105, .string t106, .slice Ao22 t107.length co22] 30 (0, 0)) zabkkd hb); have n5_ := aa (blk_below (g := gb119) (o := .cells #[.int .i64 t114, .string t115, .slice Ao29 t129.length co29] 30 (0, 0)) zgjcan hb); have n6_ := aa (blk_below (g := gb139) (o := .cells #[.int .i64 t134, .string t135, .slice Ao73 t136.length co73] 30 (0, 0)) zjlnjg hb); have n7_ := aa (below_step zmkblp hb); clear HO_111002; clear HO_120002; clear HO133; clear HO138; clear BK110; clear BK119; clear BK139; clear HB; have HO_111002 := n0_; have HO_120002 := n1_; have HO133 := n2_; have HO138 := n3_; have BK110 := n4_; have BK119 := n5_; have BK139 := n6_; have HB := n7_; clear n0_ n1_ n2_ n3_ n4_ n5_ n6_ n7_; (try clear hb); (try clear hb2); (try clear hk); (try clear hi)))
                 (try simp only [Act.put, List.setIfInBounds_toArray, List.set_cons_zero, List.set_cons_succ])
                 go_cut [] (fun wc => ∃ (kq : Nat), Aside0 (laws_FnExactSetZ.j8 kq t128 t114 t115 t129 = some r) ∧ Aside0 (kq ≤ kj59) ∧ Aside0 (Kd.R k47 47 wc w.heap.size (fun k_ => some k_ ≠ ((.slice Ao29 t129.length co29) : Value).ownBlock ∧ some k_ ≠ ((.slice Ao73 t136.length co73) : Value).ownBlock) (.slice Ao22 t107.length co22) t107) ∧ Aside0 (Kd.R k47 47 wc w.heap.size (fun k_ => some k_ ≠ ((.slice Ao22 t107.length co22) : Value).ownBlock ∧ some k_ ≠ ((.slice Ao73 t136.length co73) : Value).ownBlock) (.slice Ao29 t129.length co29) t129) ∧ Aside0 (Kd.R k47 47 wc w.heap.size (fun k_ => some k_ ≠ ((.slice Ao22 t107.length co22) : Value).ownBlock ∧ some k_ ≠ ((.slice Ao29 t129.length co29) : Value).ownBlock) (.slice Ao73 t136.length co73) t136) ∧ Aside0 (wc.heap[gb110]? = some (.cells #[.int .i64 t105, .string t106, (.slice Ao22 t107.length co22)] 30 (0, 0))) ∧ Aside0 (wc.heap[gb119]? = some (.cells #[.int .i64 t114, .string t115, (.slice Ao29 t129.length co29)] 30 (0, 0))) ∧ Aside0 (wc.heap[gb139]? = some (.cells #[.int .i64 t134, .string t135, (.slice Ao73 t136.length co73)] 30 (0, 0))) ∧ Aside0 (Below w.heap.size w wc))
                 case first =>
                  have H := HC65.out
                  clear HC65
                  by_cases c77 : t140 = true
                  ·
                   subst c77
                   have H1 : (laws_FnExactSetZ.j8 kj59 t128 t114 t115 t129) = some r := by rw [if_pos rfl] at H; exact H
                   clear H
                   have H := H1
                   clear H1
                   have H' := aa H
                   clear H
                   go_wp2
                   go_meet
                   case rel => exact ⟨_, H', ⟨by have := HJ4.out; have := HJ7.out; have := HJ15.out; have := HJ34.out; have := HJ40.out; have := HJ48.out; have := HJ52.out; have := HJ59.out; first | omega | exact Nat.le_refl _⟩, ⟨by (try simp only [hl120002_52]); (with_reducible repeat (first | apply Kd.R_alloc | apply Kd.R_drewN | apply Kd.R_drew)); exact Kd.R_mono HO_111002.out (fun _ hk => ⟨hk.1.1, hk.2⟩)⟩, ⟨by (try simp only [hl120002_52]); (with_reducible repeat (first | apply Kd.R_alloc | apply Kd.R_drewN | apply Kd.R_drew)); exact Kd.R_mono HO_120002.out (fun _ hk => ⟨hk.1.1, hk.2⟩)⟩, ⟨by (try simp only [hl120002_52]); (with_reducible repeat (first | apply Kd.R_alloc | apply Kd.R_drewN | apply Kd.R_drew)); exact Kd.R_mono HO138.out (fun _ hk => ⟨hk.1.1.2, hk.1.2⟩)⟩, ⟨by (try simp only [hl120002_52]); (with_reducible repeat (first | refine blk_drewN ?_ _ | refine blk_drew ?_ | refine blk_alloc ?_ _)); exact BK110.out⟩, ⟨by (try simp only [hl120002_52]); (with_reducible repeat (first | refine blk_drewN ?_ _ | refine blk_drew ?_ | refine blk_alloc ?_ _)); exact BK119.out⟩, ⟨by (try simp only [hl120002_52]); (with_reducible repeat (first | refine blk_drewN ?_ _ | refine blk_drew ?_ | refine blk_alloc ?_ _)); exact BK139.out⟩, ⟨by repeat (first | (with_reducible first | exact HB.out | apply below_alloc | apply pw_below_drewN | apply below_drew1 | refine below_set ?_ GE110.out | refine below_set ?_ GE119.out | refine below_set ?_ GE139.out) | exact HB.out)⟩⟩
                  ·
                   replace c77 := Bool.eq_false_iff.mpr c77
                   subst c77
                   have H1 : (some false) = some r := by rw [if_neg (show ¬ (false = true) by decide)] at H; exact H
                   clear H
                   have H := H1
                   clear H1
                   obtain rfl := Option.some.inj H
                   go_wp2
                   go_ret
                   exact ⟨by first | rfl | (simp [errW_none, errW_some] <;> rfl) | (simp [*, errW_none, errW_some] <;> rfl), by repeat (first | (with_reducible first | exact HB.out | apply below_alloc | apply pw_below_drewN | apply below_drew1 | refine below_set ?_ GE110.out | refine below_set ?_ GE119.out | refine below_set ?_ GE139.out) | exact HB.out)⟩
                 case rest =>
                  clear HC65
                  try clear c1
                  try clear c2
                  try clear p2
                  try clear c3
                  try clear c4
                  try clear c5
                  try clear c6
                  try clear c6b0
                  try clear c6b1
                  try clear c6b2
                  try clear c7
                  try clear c9
                  try clear c10
                  try clear c10b0
                  try clear c10b2
                  try clear c11
                  try clear c14
                  try clear c15
                  try clear c16
                  try clear c17
                  try clear c23
                  try clear c24
                  try clear c27
                  try clear c32
                  try clear c39
                  try clear c43
                  try clear c43b0
                  try clear c43b2
                  try clear c45
                  try clear c50
                  try clear c54
                  try clear c59
                  try clear c59b0
                  try clear c59b2
                  try clear c61
                  try clear c61b0
                  try clear c61b1
                  try clear c61b2
                  try clear c70
                  try clear c71
                  try clear c74
                  try clear c77
                  try clear hcz21_0
                  try clear hcz21_1
                  try clear hcz21_2
                  try clear hcz28_0
                  try clear hcz28_1
                  try clear hcz28_2
                  try clear hcz30_0
                  try clear hcz30_1
                  try clear hcz30_2
                  try clear hcz46_0
                  try clear hcz46_1
                  try clear hcz46_2
                  try clear hcz47_0
                  try clear hcz47_1
                  try clear hcz47_2
                  try clear hcz55_0
                  try clear hcz55_1
                  try clear hcz55_2
                  try clear hcz57_0
                  try clear hcz57_1
                  try clear hcz57_2
                  try clear hcz72_0
                  try clear hcz72_1
                  try clear hcz72_2
                  try clear hcz75_0
                  try clear hcz75_1
                  try clear hcz75_2
                  try clear hfz21_0
                  try clear hfz21_1
                  try clear hfz21_2
                  try clear hfz28_0
                  try clear hfz28_1
                  try clear hfz28_2
                  try clear hfz30_0
                  try clear hfz30_1
                  try clear hfz30_2
                  try clear hfz46_0
                  try clear hfz46_1
                  try clear hfz46_2
                  try clear hfz47_0
                  try clear hfz47_1
                  try clear hfz47_2
                  try clear hfz55_0
                  try clear hfz55_1
                  try clear hfz55_2
                  try clear hfz57_0
                  try clear hfz57_1
                  try clear hfz57_2
                  try clear hfz72_0
                  try clear hfz72_1
                  try clear hfz72_2
                  try clear hfz75_0
                  try clear hfz75_1
                  try clear hfz75_2
                  try clear p2
                  obtain ⟨kq, HA, HJ64, HO_111002, HO_120002, HO_140002, BK110, BK119, BK139, HB⟩ := hcut
                  cases kq with
                  | zero => exact absurd HA.out (by simp [laws_FnExactSetZ.j8])
                  | succ kj64 =>
                   have H := HA.out
                   clear HA
                   simp only [laws_FnExactSetZ.j8] at H
                   replace H := Option.bind_eq_some_iff.mp H
                   obtain ⟨t141, A780, H⟩ := H
                   replace H : (if t141 < 0 then (some false) else (if t141 = t128 then (some true) else (some false))) = some r := H
                   have A78 := aa A780
                   clear A780
                   by_cases c79 : t141 < 0
                   ·
                    rw [if_pos c79] at H
                    have c79b0 : decide (t141 < 0) = true := decide_eq_true c79
                    clear c79
                    obtain rfl := Option.some.inj H
                    have hnb80 := NB119_110.out
                    have hnc80 := NB110_119.out
                    have hnb81 := NB119_139.out
                    have hnc81 := NB139_119.out
                    have hcz82_0 : wc.cell? ⟨gb119, 0, none⟩ = some (.int .i64 t114) := (blk_cell BK119.out 0).trans rfl
                    have hcz82_1 : wc.cell? ⟨gb119, 1, none⟩ = some (.string t115) := (blk_cell BK119.out 1).trans rfl
                    have hcz82_2 : wc.cell? ⟨gb119, 2, none⟩ = some (.slice Ao29 t129.length co29) := (blk_cell BK119.out 2).trans rfl
                    have hfz82_0 := blk_frozen BK119.out 0
                    have hfz82_1 := blk_frozen BK119.out 1
                    have hfz82_2 := blk_frozen BK119.out 2
                    go_wp2_with (first | ((with_reducible refine gate_callee (f := 17) rfl ?_); refine goesL_ (some 81) rfl rfl Tryd.func17 (by kernel_rfl) rfl #[.agg #[.int .i64 t114, .string t115, .slice Ao29 t129.length co29], .int .i64 1] rfl zjnmae ?_; (with_reducible refine (laws_heldZResult.calls kj64 t114 t115 _ _ t129 1 t141 _ ?side1 ?side2 A78.out).mono ?_); (case side1 => exact zfgpom); (case side2 => exact zfljdm); rintro e w83 ⟨rfl, hb⟩; refine ⟨_, rfl, ?_⟩; have n0_ := aa (Kd.R_below (zcaken HO_111002.out) hb); have n1_ := aa (Kd.R_below (zcaken HO_120002.out) hb); have n2_ := aa (Kd.R_below (zcaken HO_140002.out) hb); have n3_ := aa (blk_below (g := gb110) (o := .cells #[.int .i64 t105, .string t106, .slice Ao22 t107.length co22] 30 (0, 0)) (zkjhpm BK110.out) hb); have n4_ := aa (blk_below (g := gb119) (o := .cells #[.int .i64 t114, .string t115, .slice Ao29 t129.length co29] 30 (0, 0)) (zkjhpm BK119.out) hb); have n5_ := aa (blk_below (g := gb139) (o := .cells #[.int .i64 t134, .string t135, .slice Ao73 t136.length co73] 30 (0, 0)) (zkjhpm BK139.out) hb); have n6_ := aa (below_step zmkblp hb); clear HO_111002; clear HO_120002; clear HO_140002; clear BK110; clear BK119; clear BK139; clear HB; have HO_111002 := n0_; have HO_120002 := n1_; have HO_140002 := n2_; have BK110 := n3_; have BK119 := n4_; have BK139 := n5_; have HB := n6_; clear n0_ n1_ n2_ n3_ n4_ n5_ n6_; (try clear hb); (try clear hb2); (try clear hk); (try clear hi)))
                    go_ret
                    exact ⟨by first | rfl | (simp [errW_none, errW_some] <;> rfl) | (simp [*, errW_none, errW_some] <;> rfl), by repeat (first | (with_reducible first | exact HB.out | apply below_alloc | apply pw_below_drewN | apply below_drew1 | refine below_set ?_ GE110.out | refine below_set ?_ GE119.out | refine below_set ?_ GE139.out) | exact HB.out)⟩
                   ·
                    rw [if_neg c79] at H
                    have c79b0 : decide (t141 < 0) = false := decide_eq_false c79
                    clear c79
                    by_cases c84 : t141 = t128
                    ·
                     rw [if_pos c84] at H
                     have c84b0 : (t141 == t128) = true := beq_iff_eq.mpr c84
                     have c84b1 : (t141 != t128) = false := bne_eq_false_iff_eq.mpr c84
                     clear c84
                     obtain rfl := Option.some.inj H
                     have hnb85 := NB119_110.out
                     have hnc85 := NB110_119.out
                     have hnb86 := NB119_139.out
                     have hnc86 := NB139_119.out
                     have hcz87_0 : wc.cell? ⟨gb119, 0, none⟩ = some (.int .i64 t114) := (blk_cell BK119.out 0).trans rfl
                     have hcz87_1 : wc.cell? ⟨gb119, 1, none⟩ = some (.string t115) := (blk_cell BK119.out 1).trans rfl
                     have hcz87_2 : wc.cell? ⟨gb119, 2, none⟩ = some (.slice Ao29 t129.length co29) := (blk_cell BK119.out 2).trans rfl
                     have hfz87_0 := blk_frozen BK119.out 0
                     have hfz87_1 := blk_frozen BK119.out 1
                     have hfz87_2 := blk_frozen BK119.out 2
                     go_wp2_with (first | ((with_reducible refine gate_callee (f := 17) rfl ?_); refine goesL_ (some 81) rfl rfl Tryd.func17 (by kernel_rfl) rfl #[.agg #[.int .i64 t114, .string t115, .slice Ao29 t129.length co29], .int .i64 1] rfl zjnmae ?_; (with_reducible refine (laws_heldZResult.calls kj64 t114 t115 _ _ t129 1 t141 _ ?side1 ?side2 A78.out).mono ?_); (case side1 => exact zfgpom); (case side2 => exact zfljdm); rintro e w88 ⟨rfl, hb⟩; refine ⟨_, rfl, ?_⟩; have n0_ := aa (Kd.R_below (zcaken HO_111002.out) hb); have n1_ := aa (Kd.R_below (zcaken HO_120002.out) hb); have n2_ := aa (Kd.R_below (zcaken HO_140002.out) hb); have n3_ := aa (blk_below (g := gb110) (o := .cells #[.int .i64 t105, .string t106, .slice Ao22 t107.length co22] 30 (0, 0)) (zkjhpm BK110.out) hb); have n4_ := aa (blk_below (g := gb119) (o := .cells #[.int .i64 t114, .string t115, .slice Ao29 t129.length co29] 30 (0, 0)) (zkjhpm BK119.out) hb); have n5_ := aa (blk_below (g := gb139) (o := .cells #[.int .i64 t134, .string t135, .slice Ao73 t136.length co73] 30 (0, 0)) (zkjhpm BK139.out) hb); have n6_ := aa (below_step zmkblp hb); clear HO_111002; clear HO_120002; clear HO_140002; clear BK110; clear BK119; clear BK139; clear HB; have HO_111002 := n0_; have HO_120002 := n1_; have HO_140002 := n2_; have BK110 := n3_; have BK119 := n4_; have BK139 := n5_; have HB := n6_; clear n0_ n1_ n2_ n3_ n4_ n5_ n6_; (try clear hb); (try clear hb2); (try clear hk); (try clear hi)))
                     go_ret
                     exact ⟨by first | rfl | (simp [errW_none, errW_some] <;> rfl) | (simp [*, errW_none, errW_some] <;> rfl), by repeat (first | (with_reducible first | exact HB.out | apply below_alloc | apply pw_below_drewN | apply below_drew1 | refine below_set ?_ GE110.out | refine below_set ?_ GE119.out | refine below_set ?_ GE139.out) | exact HB.out)⟩
                    ·
                     rw [if_neg c84] at H
                     have c84b0 : (t141 == t128) = false := beq_eq_false_iff_ne.mpr c84
                     have c84b1 : (t141 != t128) = true := bne_iff_ne.mpr c84
                     obtain rfl := Option.some.inj H
                     have hnb89 := NB119_110.out
                     have hnc89 := NB110_119.out
                     have hnb90 := NB119_139.out
                     have hnc90 := NB139_119.out
                     have hcz91_0 : wc.cell? ⟨gb119, 0, none⟩ = some (.int .i64 t114) := (blk_cell BK119.out 0).trans rfl
                     have hcz91_1 : wc.cell? ⟨gb119, 1, none⟩ = some (.string t115) := (blk_cell BK119.out 1).trans rfl
                     have hcz91_2 : wc.cell? ⟨gb119, 2, none⟩ = some (.slice Ao29 t129.length co29) := (blk_cell BK119.out 2).trans rfl
                     have hfz91_0 := blk_frozen BK119.out 0
                     have hfz91_1 := blk_frozen BK119.out 1
                     have hfz91_2 := blk_frozen BK119.out 2
                     go_wp2_with (first | ((with_reducible refine gate_callee (f := 17) rfl ?_); refine goesL_ (some 81) rfl rfl Tryd.func17 (by kernel_rfl) rfl #[.agg #[.int .i64 t114, .string t115, .slice Ao29 t129.length co29], .int .i64 1] rfl zjnmae ?_; (with_reducible refine (laws_heldZResult.calls kj64 t114 t115 _ _ t129 1 t141 _ ?side1 ?side2 A78.out).mono ?_); (case side1 => exact zfgpom); (case side2 => exact zfljdm); rintro e w92 ⟨rfl, hb⟩; refine ⟨_, rfl, ?_⟩; have n0_ := aa (Kd.R_below (zcaken HO_111002.out) hb); have n1_ := aa (Kd.R_below (zcaken HO_120002.out) hb); have n2_ := aa (Kd.R_below (zcaken HO_140002.out) hb); have n3_ := aa (blk_below (g := gb110) (o := .cells #[.int .i64 t105, .string t106, .slice Ao22 t107.length co22] 30 (0, 0)) (zkjhpm BK110.out) hb); have n4_ := aa (blk_below (g := gb119) (o := .cells #[.int .i64 t114, .string t115, .slice Ao29 t129.length co29] 30 (0, 0)) (zkjhpm BK119.out) hb); have n5_ := aa (blk_below (g := gb139) (o := .cells #[.int .i64 t134, .string t135, .slice Ao73 t136.length co73] 30 (0, 0)) (zkjhpm BK139.out) hb); have n6_ := aa (below_step zmkblp hb); clear HO_111002; clear HO_120002; clear HO_140002; clear BK110; clear BK119; clear BK139; clear HB; have HO_111002 := n0_; have HO_120002 := n1_; have HO_140002 := n2_; have BK110 := n3_; have BK119 := n4_; have BK139 := n5_; have HB := n6_; clear n0_ n1_ n2_ n3_ n4_ n5_ n6_; (try clear hb); (try clear hb2); (try clear hk); (try clear hi)))
                     go_ret
                     exact ⟨by first | rfl | (simp [errW_none, errW_some] <;> rfl) | (simp [*, errW_none, errW_some] <;> rfl), by repeat (first | (with_reducible first | exact HB.out | apply below_alloc | apply pw_below_drewN | apply below_drew1 | refine below_set ?_ GE110.out | refine below_set ?_ GE119.out | refine below_set ?_ GE139.out) | exact HB.out)⟩

end Go.Proofs.YtdemicncljgccaaDoor.Qa

/- Arguments laid open: what a value of a type holds in memory, by the print's kinds; for every type that is met here. -/
namespace Go.Proofs.YtdemicncljgccaaDoor.Tro
open Go.ChangeShapes Go.WideShapes Go.RowKit Go.Deep Go.Proofs.YtdemicncljgccaaDoorW.PrintWords

/-- What can be read as data of type T holds a value of this kind, of which 'good' is so. -/
def Tr {α : Type} (P : Program) (k : Kd α) (T : TypeId) (good : α → Prop) : Prop :=
  ∀ {H : Type} (enc : TypeId × Value → H) (w : World) (fuel : Nat) (cs : List Value) (x : DataW H × List MemPlace), DataW.trod enc P w 0 (fun _ => true) true fuel T cs = some x → ∃ a : α, k.K w a cs ∧ good a
theorem tr_int {P : Program} {T : TypeId} {k : IntKind} (h : P.underlying T = some (.int k)) : Tr P (Kd.int k) T (fun a => (Lit.int k a).wf = true) := by
  intro H enc w fuel cs x hx
  obtain ⟨n, rfl, _, hw⟩ := DataW.trod_int h hx
  exact ⟨n, rfl, hw⟩
theorem tr_bool {P : Program} {T : TypeId} (h : P.underlying T = some .bool) : Tr P Kd.bool T (fun _ => True) := by
  intro H enc w fuel cs x hx
  obtain ⟨b, rfl, _⟩ := DataW.trod_bool h hx
  exact ⟨b, rfl, trivial⟩
theorem tr_string {P : Program} {T : TypeId} (h : P.underlying T = some .string) : Tr P Kd.string T (fun s => s.size ≤ 9223372036854775807) := by
  intro H enc w fuel cs x hx
  obtain ⟨s, rfl, _, hs⟩ := DataW.trod_string h hx
  exact ⟨s, rfl, hs⟩
theorem choose_list {α : Type} {p : Nat → α → Prop} : ∀ n : Nat, (∀ i, i < n → ∃ a, p i a) → ∃ xs : List α, xs.length = n ∧ ∀ i a, xs[i]? = some a → p i a
  | 0, _ => ⟨[], rfl, fun i a h => by simp at h⟩
  | n + 1, h => by
    obtain ⟨xs, hl, hx⟩ := choose_list n (fun i hi => h i (by omega))
    obtain ⟨a, ha⟩ := h n (by omega)
    refine ⟨xs ++ [a], by simp [hl], fun i b hb => ?_⟩
    rcases Nat.lt_or_ge i xs.length with hi | hi
    · rw [List.getElem?_append_left hi] at hb
      exact hx i b hb
    · rw [List.getElem?_append_right hi] at hb
      have hi' : i = xs.length := by
        rcases Nat.eq_or_lt_of_le hi with e | e
        · exact e.symm
        · rw [List.getElem?_eq_none (by simp; omega)] at hb
          cases hb
      subst hi'
      rw [Nat.sub_self] at hb
      cases hb
      rw [hl]
      exact ha
theorem tr_slice {α : Type} {P : Program} {T e : TypeId} {d : Kd α} {good : α → Prop} (h : P.underlying T = some (.slice e)) (hz : d.sz = P.cellsOf e) (he : Tr P d e good) :
    Tr P (Kd.slice e d) T (fun xs => xs.length ≤ 9223372036854775807 ∧ ∀ x ∈ xs, good x) := by
  intro H enc w fuel cs x hx
  rcases open_slice h hx with ⟨rfl, _⟩ | ⟨a, len, cap, m, n, D, Pl, rfl, _, hl, hm, hmm, _, hi⟩
  · exact ⟨[], ⟨none, 0, rfl, Nat.le_refl _, rfl, Nat.zero_le _, fun h0 => absurd h0 (Nat.lt_irrefl 0)⟩, Nat.zero_le _, fun x hx => by simp at hx⟩
  · have hmc : m = cap := by simpa using hmm
    have hcap : cap ≤ 9223372036854775807 := hm
    obtain ⟨xs, hxl, hxs⟩ := choose_list (p := fun i b => (∃ c, c.length = d.sz ∧ d.K w b c ∧ ∀ j u, c[j]? = some u → w.cell? (a.add (i * d.sz + j)) = some u) ∧ good b) len (fun i hil => by
      obtain ⟨cs', hc, ht⟩ := hi i (by omega)
      obtain ⟨b, hb, hg⟩ := he enc w n cs' _ ht
      refine ⟨b, ⟨cs', d.K_len hb, hb, fun j u hu => ?_⟩, hg⟩
      obtain ⟨_, hcl, hat⟩ := World.cells?_some hc
      have hj : j < P.cellsOf e := by rw [← hcl]; exact (List.getElem?_eq_some_iff.1 hu).1
      have := hat j hj
      rw [hz, ← Go.Deep.add_add, this, hu])
    refine ⟨xs, ⟨some a, cap, by rw [hxl], by omega, rfl, by omega, fun _ => ⟨a, rfl, fun j p hp => (hxs j p hp).1⟩⟩, by omega, fun b hb => ?_⟩
    obtain ⟨i, hil, he⟩ := List.getElem_of_mem hb
    exact (hxs i b (by rw [← he]; exact List.getElem?_eq_getElem hil)).2
end Go.Proofs.YtdemicncljgccaaDoor.Tro

-- By gp.py (wip/gen of the work's repo), a program of this workplace over the kit's print: Lean checks it.
namespace Go.Proofs.YtdemicncljgccaaDoor.Qa
open Go.RowKit Go.Proofs.YtdemicncljgccaaDoorW.PrintWords Go.Proofs.YtdemicncljgccaaDoorW.PrintLast Go.Proofs.YtdemicncljgccaaDoorW.PrintMore Go.ChangeShapes Go.WideShapes Go.Proofs.YtdemicncljgccaaDoor.Tro
attribute [local go_sem] max2_int min2_int max_two min_two max_three min_three max_four min_four   -- for this text's walks alone
set_option linter.unusedVariables false
set_option linter.unusedSimpArgs false

def g46 (x_ : S46) : Prop := (x_.f0.size ≤ 9223372036854775807) ∧ ((Lit.int .i64 x_.f1).wf = true) ∧ ((Lit.int .i64 x_.f2).wf = true) ∧ ((Lit.int .i64 x_.f3).wf = true) ∧ ((Lit.int .i64 x_.f4).wf = true)
set_option maxRecDepth 100000 in
theorem tr46 : Tr Tryd.prog k46 46 g46 := by
  intro H enc w fuel cs x hx
  obtain ⟨ys, n, _, _, hlen, hyl, hf⟩ := DataW.trod_struct Tryd.underlying46 hx
  have hl : cs.length = 5 := hlen.trans (by kernel_rfl)
  have hy : ys.length = 5 := hyl
  clear hlen hyl hx
  match cs, hl with
  | [c0, c1, c2, c3, c4], _ =>
    have q0 : DataW.trod enc Tryd.prog w 0 (fun _ => true) true n 9 ((([c0, c1, c2, c3, c4] : List Value).drop 0).take (Tryd.prog.cellsOf 9)) = ys[0]? := hf 0 _ rfl
    rw [show Tryd.prog.cellsOf 9 = 1 from by kernel_rfl] at q0
    rw [List.getElem?_eq_getElem (show 0 < ys.length by omega)] at q0
    obtain ⟨a0, h0, g0⟩ := (tr_string Tryd.underlying9) enc w n [c0] _ q0
    have q1 : DataW.trod enc Tryd.prog w 0 (fun _ => true) true n 2 ((([c0, c1, c2, c3, c4] : List Value).drop 1).take (Tryd.prog.cellsOf 2)) = ys[1]? := hf 1 _ rfl
    rw [show Tryd.prog.cellsOf 2 = 1 from by kernel_rfl] at q1
    rw [List.getElem?_eq_getElem (show 1 < ys.length by omega)] at q1
    obtain ⟨a1, h1, g1⟩ := (tr_int Tryd.underlying2) enc w n [c1] _ q1
    have q2 : DataW.trod enc Tryd.prog w 0 (fun _ => true) true n 2 ((([c0, c1, c2, c3, c4] : List Value).drop 2).take (Tryd.prog.cellsOf 2)) = ys[2]? := hf 2 _ rfl
    rw [show Tryd.prog.cellsOf 2 = 1 from by kernel_rfl] at q2
    rw [List.getElem?_eq_getElem (show 2 < ys.length by omega)] at q2
    obtain ⟨a2, h2, g2⟩ := (tr_int Tryd.underlying2) enc w n [c2] _ q2
    have q3 : DataW.trod enc Tryd.prog w 0 (fun _ => true) true n 2 ((([c0, c1, c2, c3, c4] : List Value).drop 3).take (Tryd.prog.cellsOf 2)) = ys[3]? := hf 3 _ rfl
    rw [show Tryd.prog.cellsOf 2 = 1 from by kernel_rfl] at q3
    rw [List.getElem?_eq_getElem (show 3 < ys.length by omega)] at q3
    obtain ⟨a3, h3, g3⟩ := (tr_int Tryd.underlying2) enc w n [c3] _ q3
    have q4 : DataW.trod enc Tryd.prog w 0 (fun _ => true) true n 2 ((([c0, c1, c2, c3, c4] : List Value).drop 4).take (Tryd.prog.cellsOf 2)) = ys[4]? := hf 4 _ rfl
    rw [show Tryd.prog.cellsOf 2 = 1 from by kernel_rfl] at q4
    rw [List.getElem?_eq_getElem (show 4 < ys.length by omega)] at q4
    obtain ⟨a4, h4, g4⟩ := (tr_int Tryd.underlying2) enc w n [c4] _ q4
    exact ⟨⟨a0, a1, a2, a3, a4⟩, ⟨[c0], [c1, c2, c3, c4], rfl, h0, ⟨[c1], [c2, c3, c4], rfl, h1, ⟨[c2], [c3, c4], rfl, h2, ⟨[c3], [c4], rfl, h3, h4⟩⟩⟩⟩, ⟨g0, g1, g2, g3, g4⟩⟩
end Go.Proofs.YtdemicncljgccaaDoor.Qa

/- Small laws of the pure side: what ends, step by step; whole numbers; lists by places. -/
namespace Go.Proofs.YtdemicncljgccaaDoor.Aid
open Go.RowKit Go.Proofs.YtdemicncljgccaaDoorW.PrintWords

theorem wrap_id {x : Int} (h0 : -9223372036854775808 ≤ x) (h1 : x ≤ 9223372036854775807) : wrap64 x = x := by
  unfold wrap64
  omega
theorem wrap_up {i n : Nat} (h : i < n) (hn : n ≤ 4611686018427387904) : wrap64 ((i : Int) + 1) = ((i + 1 : Nat) : Int) := by
  rw [wrap_id (by omega) (by omega)]
  omega
theorem wf_lo {x : Int} (h : (Lit.int .i64 x).wf = true) : -9223372036854775808 ≤ x ∧ x ≤ 9223372036854775807 := by
  have h' : (decide (IntKind.i64.min ≤ x) && decide (x ≤ IntKind.i64.max)) = true := h
  simp only [Bool.and_eq_true, decide_eq_true_eq] at h'
  exact h'
/-- One round, then what is known of the rest. -/
theorem ev_step {α : Type} {g : Nat → Option α} (f : Nat → Option α) {r : α} (h : ∀ k, g (k + 1) = f k) (k : Ev f r) : Ev g r := Ev.step h k
theorem ev_done {α : Type} {g : Nat → Option α} {r : α} (h : ∀ k, g (k + 1) = some r) : Ev g r := Ev.step h (Ev.now r)
theorem ev_is {α : Type} {g : Nat → Option α} {r : α} (h : ∀ k, g k = some r) : Ev g r := ⟨0, fun k _ => h k⟩
/-- A call whose answer is known, then the rest. -/
theorem ev_call {α β : Type} {g : Nat → Option α} {f : Nat → α → Option β} {a : α} {r : β} (h : Ev g a) (k : Ev (fun n => f n a) r) : Ev (fun n => (g n).bind (f n)) r := Ev.bind h k
theorem ev_cong {α : Type} {g f : Nat → Option α} {r : α} (h : ∀ k, g k = f k) (k : Ev f r) : Ev g r := Ev.congr h k
theorem rd_at {l : List Int} {i : Nat} (h : i < l.length) : rd l (i : Int) = l[i] := by
  unfold rd
  rw [Int.toNat_natCast, List.getD_eq_getElem?_getD, List.getElem?_eq_getElem h]
  rfl
theorem drop_at {α : Type} {l : List α} {i : Nat} (h : i < l.length) : l.drop i = l[i] :: l.drop (i + 1) := List.drop_eq_getElem_cons h
theorem drop_end {α : Type} {l : List α} {i : Nat} (h : l.length ≤ i) : l.drop i = [] := List.drop_eq_nil_of_le h
theorem rd_set_at {l : List Int} {i : Nat} {v : Int} (h : i < l.length) : rd (l.set i v) (i : Int) = v := by
  rw [rd_at (by simpa using h)]
  simp
theorem rdOf_at {α : Type} {z : α} {l : List α} {i : Nat} (h : i < l.length) : rdOf z l (i : Int) = l[i] := by
  unfold rdOf
  rw [Int.toNat_natCast, List.getD_eq_getElem?_getD, List.getElem?_eq_getElem h]
  rfl
theorem rdOf_set_at {α : Type} {z : α} {l : List α} {i : Nat} {v : α} (h : i < l.length) : rdOf z (l.set i v) (i : Int) = v := by
  rw [rdOf_at (by simpa using h)]
  simp
theorem take_set_snoc {α : Type} {l : List α} {i : Nat} {v : α} (h : i < l.length) : (l.set i v).take (i + 1) = l.take i ++ [v] := by
  rw [List.take_succ_eq_append_getElem (by simpa using h), List.take_set_of_le (Nat.le_refl i)]
  simp
theorem take_set_next {α : Type} {m L : List α} {i : Nat} {v : α} (h : i < m.length) (h' : i < L.length) (ht : m.take i = L.take i) (hv : L[i] = v) : (m.set i v).take (i + 1) = L.take (i + 1) := by
  rw [take_set_snoc h, List.take_succ_eq_append_getElem h', ht, hv]
theorem wr1_ (m : Int) (h0 : -9223372036854775808 ≤ m + 1) (h1 : m + 1 ≤ 9223372036854775807) : wrap64 (m + 1) = m + 1 := wrap_id h0 h1
theorem wrn_ (m j j1 : Int) (e : j + 1 = j1) (h0 : -9223372036854775808 ≤ m + j + 1) (h1 : m + j + 1 ≤ 9223372036854775807) : wrap64 (m + j + 1) = m + j1 := by
  rw [wrap_id h0 h1]
  omega
theorem size_strOfNums (xs : List Int) : (strOfNums xs).size = xs.length := by
  simp [strOfNums, ByteArray.size]
theorem tdiv_lt {x : Int} (h : 0 < x) : 0 ≤ Int.tdiv x 10 ∧ Int.tdiv x 10 + 1 ≤ x := by
  have : Int.tdiv x 10 = x / 10 := Int.tdiv_eq_ediv_of_nonneg (by omega)
  rw [this]
  omega
/-- Where what is so stands ahead of what is not: how many are so is the place. -/
theorem take_pos {α : Type} (p : α → Bool) (l : List α) (hm : l.Pairwise (fun x y => p y = true → p x = true)) : ∀ j (hj : j < l.length), p l[j] = true ↔ j < (l.takeWhile p).length := by
  induction l with
  | nil => intro j hj; simp at hj
  | cons x l ih =>
    intro j hj
    obtain ⟨h1, h2⟩ := List.pairwise_cons.1 hm
    cases hx : p x with
    | true =>
      rw [List.takeWhile_cons_of_pos hx]
      cases j with
      | zero => simp [hx]
      | succ j => simpa using ih h2 j (by simpa using hj)
    | false =>
      rw [List.takeWhile_cons_of_neg (by simp [hx])]
      cases j with
      | zero => simp [hx]
      | succ j =>
        have hj' : j < l.length := by simpa using hj
        have : p l[j] = true → False := fun h => by
          have := h1 l[j] (List.getElem_mem hj') h
          rw [hx] at this
          cases this
        simp
        exact Bool.eq_false_iff.2 this
theorem take_pos_le {α : Type} (p : α → Bool) (l : List α) : (l.takeWhile p).length ≤ l.length := (List.takeWhile_prefix p).length_le
theorem mid_eq {a b : Nat} (h : a + b ≤ 4611686018427387904) : wrap64 ((IntKind.u64.wrap (wrap64 ((a : Int) + (b : Int)))) / 2) = ((((a + b) / 2 : Nat)) : Int) := by
  have e : wrap64 ((a : Int) + (b : Int)) = ((a + b : Nat) : Int) := by rw [wrap_id (by omega) (by omega)]; omega
  have e2 : IntKind.u64.wrap (((a + b : Nat)) : Int) = ((a + b : Nat) : Int) := by
    have : IntKind.u64.wrap (((a + b : Nat)) : Int) = (((a + b : Nat)) : Int) % 18446744073709551616 := rfl
    rw [this]
    omega
  rw [e, e2, wrap_id (by omega) (by omega)]
  omega
end Go.Proofs.YtdemicncljgccaaDoor.Aid

-- By gp.py (wip/gen of the work's repo), a program of this workplace over the kit's print: Lean checks it.
namespace Go.Proofs.YtdemicncljgccaaDoor.Qa
open Go.RowKit Go.Proofs.YtdemicncljgccaaDoorW.PrintWords Go.Proofs.YtdemicncljgccaaDoorW.PrintLast Go.Proofs.YtdemicncljgccaaDoor.Aid
set_option linter.unusedVariables false
set_option linter.unusedSimpArgs false

theorem rd_T46_at {l : List (S46)} {i : Nat} (h : i < l.length) : rd_T46 l (i : Int) = l[i] := by
  unfold rd_T46
  rw [Int.toNat_natCast, List.getD_eq_getElem?_getD, List.getElem?_eq_getElem h]
  rfl
theorem rd_T46_set {l : List (S46)} {i : Nat} {v : S46} (h : i < l.length) : rd_T46 (l.set i v) (i : Int) = v := by
  rw [rd_T46_at (by simpa using h)]
  simp
theorem rd_T47_at {l : List (S47)} {i : Nat} (h : i < l.length) : rd_T47 l (i : Int) = l[i] := by
  unfold rd_T47
  rw [Int.toNat_natCast, List.getD_eq_getElem?_getD, List.getElem?_eq_getElem h]
  rfl
theorem rd_T47_set {l : List (S47)} {i : Nat} {v : S47} (h : i < l.length) : rd_T47 (l.set i v) (i : Int) = v := by
  rw [rd_T47_at (by simpa using h)]
  simp
end Go.Proofs.YtdemicncljgccaaDoor.Qa

-- By gp.py (wip/gen of the work's repo), a program of this workplace over the kit's print: Lean checks it.
namespace Go.Proofs.YtdemicncljgccaaDoor.Qa
open Go.RowKit Go.Proofs.YtdemicncljgccaaDoorW.PrintWords Go.Proofs.YtdemicncljgccaaDoorW.PrintLast Go.Proofs.YtdemicncljgccaaDoor.Aid
set_option linter.unusedVariables false
set_option linter.unusedSimpArgs false

def cvZnode (x : S46) : S47 := (⟨x.f0, x.f1, x.f2, x.f3, x.f4⟩ : S47)
theorem laws_toZnode.is (x : S46) : laws_toZnode.f x.f0 x.f1 x.f2 x.f3 x.f4 = some (x.f0, x.f1, x.f2, x.f3, x.f4) := by
  rfl
theorem laws_eqZnode.is (x : S47) : laws_eqZnode.f x.f0 x.f1 x.f2 x.f3 x.f4 x.f0 x.f1 x.f2 x.f3 x.f4 = some true := by
  simp [laws_eqZnode.f]
theorem laws_szZnode.is (x : S46) (a : Int) (hx : x.f0.size ≤ 9223372036854775807) (h0 : 0 ≤ a) (h1 : a ≤ 1048576) : laws_szZnode.f x.f0 x.f1 x.f2 x.f3 x.f4 a = some (if a - (x.f0.size : Int) < 0 then -1 else a - (x.f0.size : Int)) := by
  unfold laws_szZnode.f
  rw [wrap_id (by omega) (by omega)]
  by_cases h : a - (x.f0.size : Int) < 0
  · rw [if_pos h, if_pos h]
  · rw [if_neg h, if_neg h]
theorem laws_szZnodeS.l0_ev (l : List (S46)) (hl : l.length ≤ 4611686018427387904) (hx : ∀ x ∈ l, x.f0.size ≤ 9223372036854775807) (d : Nat) : ∀ (i : Nat) (a : Int), i + d = l.length → 0 ≤ a → a ≤ 1048576 → ∃ r : Int, Ev (fun k => laws_szZnodeS.l0 k l a (i : Int)) r ∧ (0 ≤ r → r ≤ a ∧ ∀ x ∈ l.drop i, (x.f0.size : Int) ≤ a) := by
  induction d with
  | zero =>
    intro i a h h0 h1
    refine ⟨a, ev_done fun k => ?_, fun _ => ⟨Int.le_refl _, ?_⟩⟩
    · simp only [laws_szZnodeS.l0]; rw [if_neg (by omega)]
    · rw [drop_end (by omega)]; intro x hx; cases hx
  | succ d ih =>
    intro i a h h0 h1
    have hi : i < l.length := by omega
    have hxi := hx l[i] (List.getElem_mem hi)
    by_cases hn : a - (l[i].f0.size : Int) < 0
    · refine ⟨-1, ev_done fun k => ?_, by omega⟩
      simp only [laws_szZnodeS.l0]; rw [if_pos (by omega), if_pos (by omega), rd_T46_at hi, laws_szZnode.is _ _ hxi h0 h1, if_pos hn]; simp only [Option.bind_some]; rw [if_pos (by omega)]
    · obtain ⟨r, hr, hq⟩ := ih (i + 1) (a - (l[i].f0.size : Int)) (by omega) (by omega) (by omega)
      refine ⟨r, ev_step (fun k => laws_szZnodeS.l0 k l (a - (l[i].f0.size : Int)) ((i + 1 : Nat) : Int)) (fun k => ?_) hr, fun hr0 => ?_⟩
      · simp only [laws_szZnodeS.l0]; rw [if_pos (by omega), if_pos (by omega), rd_T46_at hi, laws_szZnode.is _ _ hxi h0 h1, if_neg hn]; simp only [Option.bind_some]; rw [if_neg (by omega), wrap_up hi hl]
      · obtain ⟨h2, h3⟩ := hq hr0
        refine ⟨by omega, fun x hx' => ?_⟩
        rw [drop_at hi] at hx'
        rcases List.mem_cons.1 hx' with rfl | hx'
        · omega
        · have := h3 x hx'; omega
theorem laws_szZnodeS.ev (l : List (S46)) (a : Int) (hl : l.length ≤ 9223372036854775807) (hx : ∀ x ∈ l, x.f0.size ≤ 9223372036854775807) (h0 : 0 ≤ a) (h1 : a ≤ 1048576) : ∃ r : Int, Ev (fun k => laws_szZnodeS.f k l a) r ∧ (0 ≤ r → r ≤ a ∧ (l.length : Int) ≤ a ∧ ∀ x ∈ l, (x.f0.size : Int) ≤ a) := by
  unfold laws_szZnodeS.f
  by_cases h : a - (l.length : Int) < 0
  · refine ⟨-1, ev_is fun k => ?_, by omega⟩
    rw [wrap_id (by omega) (by omega), if_pos h]
  · obtain ⟨r, hr, hq⟩ := laws_szZnodeS.l0_ev l (by omega) hx l.length 0 (a - (l.length : Int)) (by omega) (by omega) (by omega)
    refine ⟨r, ev_cong (fun k => ?_) hr, fun hr0 => ?_⟩
    · rw [wrap_id (by omega) (by omega), if_neg h]; rfl
    · obtain ⟨h2, h3⟩ := hq hr0
      rw [List.drop_zero] at h3
      exact ⟨by omega, by omega, fun x hx' => by have := h3 x hx'; omega⟩
theorem laws_toZnodeS.l0_ev (l : List (S46)) (hl : l.length ≤ 4611686018427387904) (d : Nat) : ∀ (i : Nat) (m : List (S47)), i + d = l.length → m.length = l.length → m.take i = (l.map cvZnode).take i → Ev (fun k => laws_toZnodeS.l0 k l m (i : Int)) (l.map cvZnode) := by
  induction d with
  | zero =>
    intro i m h hm ht
    have e : m = (l.map cvZnode) := by rw [List.take_of_length_le (by omega), List.take_of_length_le (by rw [List.length_map]; omega)] at ht; exact ht
    exact ev_done fun k => by simp only [laws_toZnodeS.l0]; rw [if_neg (by omega), e]
  | succ d ih =>
    intro i m h hm ht
    have hi : i < l.length := by omega
    have hi' : i < (l.map cvZnode).length := by rw [List.length_map]; omega
    have hv : (l.map cvZnode)[i] = (cvZnode l[i]) := by rw [List.getElem_map]
    refine ev_step (fun k => laws_toZnodeS.l0 k l (m.set i (cvZnode l[i])) ((i + 1 : Nat) : Int)) (fun k => ?_) (ih (i + 1) (m.set i (cvZnode l[i])) (by omega) (by rw [List.length_set]; exact hm) ?_)
    · simp only [laws_toZnodeS.l0]; rw [if_pos (by omega), if_pos (by omega), rd_T46_at hi, laws_toZnode.is]; simp only [Option.bind_some]; rw [if_pos (by omega), wrap_up hi hl, Int.toNat_natCast]; rfl
    · exact take_set_next (by omega) hi' ht hv
theorem laws_toZnodeS.ev (l : List (S46)) (hl : l.length ≤ 1048576) : Ev (fun k => laws_toZnodeS.f k l) (l.map cvZnode) := by
  unfold laws_toZnodeS.f
  refine ev_cong (f := fun k => laws_toZnodeS.l0 k l (List.replicate l.length z47) ((0 : Nat) : Int)) (fun k => ?_) (laws_toZnodeS.l0_ev l (by omega) l.length 0 _ (by omega) (by simp) (by simp))
  rw [if_pos (by omega), if_pos (by rw [Int.toNat_natCast]; omega), Int.toNat_natCast]; rfl
theorem laws_eqZnodeS.l0_ev (l : List (S47)) (hl : l.length ≤ 4611686018427387904) (d : Nat) : ∀ (i : Nat), i + d = l.length → Ev (fun k => laws_eqZnodeS.l0 k l l (i : Int)) true := by
  induction d with
  | zero => exact fun i h => ev_done fun k => by simp only [laws_eqZnodeS.l0]; rw [if_neg (by omega)]
  | succ d ih =>
    intro i h
    have hi : i < l.length := by omega
    refine ev_step (fun k => laws_eqZnodeS.l0 k l l ((i + 1 : Nat) : Int)) (fun k => ?_) (ih (i + 1) (by omega))
    simp only [laws_eqZnodeS.l0]; rw [if_pos (by omega), if_pos (by omega), if_pos (by omega), laws_eqZnode.is, Option.bind_some, if_pos rfl, wrap_up hi hl]
theorem laws_eqZnodeS.ev (l : List (S47)) (hl : l.length ≤ 4611686018427387904) : Ev (fun k => laws_eqZnodeS.f k l l) true := by
  unfold laws_eqZnodeS.f
  exact ev_cong (fun k => if_pos rfl) (laws_eqZnodeS.l0_ev l hl l.length 0 (by omega))
end Go.Proofs.YtdemicncljgccaaDoor.Qa

-- By gp.py (wip/gen of the work's repo), a program of this workplace over the kit's print: Lean checks it.
namespace Go.Proofs.YtdemicncljgccaaDoor.Qa
open Go.RowKit Go.Proofs.YtdemicncljgccaaDoorW.PrintWords Go.Proofs.YtdemicncljgccaaDoorW.PrintLast Go.Proofs.YtdemicncljgccaaDoor.Aid
set_option linter.unusedVariables false
set_option linter.unusedSimpArgs false

theorem markText_l0 (d : Nat) : ∀ (x : Int) (s : ByteArray), 0 ≤ x → x ≤ d → (s.size : Int) + x ≤ 1152921504606846976 → ∃ t, Ev (fun k => laws_markText.l0 k x s) t := by
  induction d with
  | zero =>
    intro x s h0 h1 hs
    refine ⟨(⟨#[109]⟩ : ByteArray) ++ s, ev_done fun k => ?_⟩
    simp only [laws_markText.l0]; rw [if_neg (by omega), if_pos (by omega)]
  | succ d ih =>
    intro x s h0 h1 hs
    by_cases hx : x > 0
    · have hd := tdiv_lt hx
      obtain ⟨t, ht⟩ := ih (Int.tdiv x 10) (strOfNums [(wrap64 (48 + (Int.tmod x 10))) % 256] ++ s) hd.1 (by omega) (by rw [ByteArray.size_append, size_strOfNums]; simp; omega)
      refine ⟨t, ev_step (fun k => laws_markText.l0 k (Int.tdiv x 10) (strOfNums [(wrap64 (48 + (Int.tmod x 10))) % 256] ++ s)) (fun k => ?_) ht⟩
      simp only [laws_markText.l0]; rw [if_pos hx]; simp only [Option.bind_some]; rw [if_pos (by rw [size_strOfNums]; simp; omega), wrap_id (by omega) (by omega)]
    · refine ⟨(⟨#[109]⟩ : ByteArray) ++ s, ev_done fun k => ?_⟩
      simp only [laws_markText.l0]; rw [if_neg hx, if_pos (by omega)]
theorem markText_ex (m : Int) (h0 : 0 ≤ m) (h1 : m ≤ 1152921504606846976) : ∃ t, Ev (fun k => laws_markText.f k m) t := by
  unfold laws_markText.f
  by_cases h : m ≤ 0
  · exact ⟨_, ev_is fun k => if_pos h⟩
  · obtain ⟨t, ht⟩ := markText_l0 m.toNat m (⟨#[]⟩ : ByteArray) h0 (by omega) (by simp [ByteArray.size]; omega)
    exact ⟨t, ev_cong (fun k => if_neg h) ht⟩
open Classical in
/-- The text of a count. -/
noncomputable def mkText (m : Int) : ByteArray := if h : ∃ t, Ev (fun k => laws_markText.f k m) t then h.choose else ⟨#[]⟩
theorem mkText_ev (m : Int) (h0 : 0 ≤ m) (h1 : m ≤ 1152921504606846976) : Ev (fun k => laws_markText.f k m) (mkText m) := by
  have h := markText_ex m h0 h1
  unfold mkText
  rw [dif_pos h]
  exact h.choose_spec
end Go.Proofs.YtdemicncljgccaaDoor.Qa

-- By gp.py (wip/gen of the work's repo), a program of this workplace over the kit's print: Lean checks it.
namespace Go.Proofs.YtdemicncljgccaaDoor.Qa
open Go.RowKit Go.Proofs.YtdemicncljgccaaDoorW.PrintWords Go.Proofs.YtdemicncljgccaaDoorW.PrintLast Go.Proofs.YtdemicncljgccaaDoor.Aid
set_option linter.unusedVariables false
set_option linter.unusedSimpArgs false

noncomputable def mkZnodeS (m : Int) : S47 := (⟨(mkText m), (m + 1), (m + 2), (m + 3), (m + 4)⟩ : S47)
noncomputable def rowZnodeS : Nat → Int → List (S47)
  | 0, _ => []
  | d + 1, m => mkZnodeS m :: rowZnodeS d (m + 5)
theorem laws_markZnodeS.l0_ev (d : Nat) : ∀ (i : Nat) (l : List (S47)) (m : Int), i + d = l.length → l.length ≤ 1048576000 → 0 ≤ m → m + 5 * d ≤ 1152921504606846976 → Ev (fun k => laws_markZnodeS.l0 k l m (i : Int)) (m + 5 * d, l.take i ++ rowZnodeS d m) := by
  induction d with
  | zero =>
    intro i l m h hl h0 hb
    refine ev_done fun k => ?_
    simp only [laws_markZnodeS.l0]; rw [if_neg (by omega), List.take_of_length_le (by omega)]; simp [rowZnodeS]
  | succ d ih =>
    intro i l m h hl h0 hb
    have hi : i < l.length := by omega
    have e1 : m + 5 * ((d + 1 : Nat) : Int) = (m + 5) + 5 * (d : Int) := by omega
    have e2 : l.take i ++ rowZnodeS (d + 1) m = (l.set i (mkZnodeS m)).take (i + 1) ++ rowZnodeS d (m + 5) := by
      rw [take_set_snoc hi, List.append_assoc]; rfl
    rw [e1, e2]
    have IH := ih (i + 1) (l.set i (mkZnodeS m)) (m + 5) (by rw [List.length_set]; omega) (by rw [List.length_set]; exact hl) (by omega) (by omega)
    have hil : (i : Int) < (l.length : Int) := by omega
    have h0i : 0 ≤ (i : Int) := Int.natCast_nonneg i
    refine ev_step (fun k => (laws_markText.f k m).bind fun t => laws_markZnodeS.l0 k (l.set i ((⟨t, (m + 1), (m + 2), (m + 3), (m + 4)⟩ : S47))) (m + 5) ((i + 1 : Nat) : Int)) (fun k => ?_) (ev_call (mkText_ev m (by omega) (by omega)) IH)
    simp only [laws_markZnodeS.l0, wr1_ m (by omega) (by omega), wrn_ m 1 2 rfl (by omega) (by omega), wrn_ m 2 3 rfl (by omega) (by omega), wrn_ m 3 4 rfl (by omega) (by omega), wrn_ m 4 5 rfl (by omega) (by omega), Int.toNat_natCast, Option.bind_some, if_pos hil, if_pos h0i, wrap_up hi (show l.length ≤ 4611686018427387904 by omega), List.set_set, rd_T47_set hi]
theorem laws_markZnodeS.ev (l : List (S47)) (m : Int) (hl : l.length ≤ 1048576000) (h0 : 0 ≤ m) (hb : m ≤ 1000000000000) : Ev (fun k => laws_markZnodeS.f k l m) (m + 5 * l.length, rowZnodeS l.length m) := by
  have h := laws_markZnodeS.l0_ev l.length 0 l m (by omega) hl h0 (by omega)
  rw [List.take_zero, List.nil_append] at h
  exact h
theorem laws_heldZnodeS.l0_ev (d : Nat) : ∀ (i : Nat) (l : List (S47)) (m : Int), i + d = l.length → l.length ≤ 1048576000 → l.drop i = rowZnodeS d m → 0 ≤ m → m + 5 * d ≤ 1152921504606846976 → Ev (fun k => laws_heldZnodeS.l0 k l m (i : Int)) (m + 5 * d) := by
  induction d with
  | zero =>
    intro i l m h hl hr h0 hb
    refine ev_done fun k => ?_
    simp only [laws_heldZnodeS.l0]; rw [if_neg (by omega)]; simp
  | succ d ih =>
    intro i l m h hl hr h0 hb
    have hi : i < l.length := by omega
    have e1 : m + 5 * ((d + 1 : Nat) : Int) = (m + 5) + 5 * (d : Int) := by omega
    rw [drop_at hi] at hr
    obtain ⟨hx, hr⟩ := List.cons.inj hr
    rw [e1]
    have IH := ih (i + 1) l (m + 5) (by omega) hl hr (by omega) (by omega)
    have hil : (i : Int) < (l.length : Int) := by omega
    have h0i : 0 ≤ (i : Int) := Int.natCast_nonneg i
    refine ev_step (fun k => (laws_markText.f k m).bind fun t => if (mkText m).toList = t.toList then laws_heldZnodeS.l0 k l (m + 5) ((i + 1 : Nat) : Int) else some (-1)) (fun k => ?_) (ev_call (mkText_ev m (by omega) (by omega)) (ev_cong (fun k => if_pos rfl) IH))
    simp only [laws_heldZnodeS.l0, wr1_ m (by omega) (by omega), wrn_ m 1 2 rfl (by omega) (by omega), wrn_ m 2 3 rfl (by omega) (by omega), wrn_ m 3 4 rfl (by omega) (by omega), wrn_ m 4 5 rfl (by omega) (by omega), Int.toNat_natCast, Option.bind_some, if_pos hil, if_pos h0i, wrap_up hi (show l.length ≤ 4611686018427387904 by omega), rd_T47_at hi, hx, mkZnodeS]; simp
theorem laws_heldZnodeS.ev (n : Nat) (m : Int) (hl : n ≤ 1048576000) (h0 : 0 ≤ m) (hb : m ≤ 1000000000000) : Ev (fun k => laws_heldZnodeS.f k (rowZnodeS n m) m) (m + 5 * n) := by
  have hn : ∀ (n : Nat) (m : Int), (rowZnodeS n m).length = n := by
    intro n
    induction n with
    | zero => intro m; rfl
    | succ n ih => intro m; simp [rowZnodeS, ih]
  exact laws_heldZnodeS.l0_ev n 0 (rowZnodeS n m) m (by rw [hn]; omega) (by rw [hn]; exact hl) (by rw [List.drop_zero]) h0 (by omega)
end Go.Proofs.YtdemicncljgccaaDoor.Qa

/- A number within bounds, by the program and by the reference. -/
namespace Go.Proofs.YtdemicncljgccaaDoor.Pure
open Go.RowKit Go.Proofs.YtdemicncljgccaaDoor.Qa Go.Proofs.YtdemicncljgccaaDoorW.PrintWords Go.Proofs.YtdemicncljgccaaDoorW.PrintLast Go.Proofs.YtdemicncljgccaaDoor.Aid
theorem spec_l1In_is (a lo hi : Int) : spec_l1In.f a lo hi = some (decide (lo ≤ a ∧ a ≤ hi)) := by
  unfold spec_l1In.f
  by_cases h : lo ≤ a
  · rw [if_pos h]; simp [h]
  · rw [if_neg h]; simp [h]
theorem impl_within_is (a lo hi : Int) : impl_within.f a lo hi = some (decide (lo ≤ a ∧ a ≤ hi)) := by
  unfold impl_within.f
  by_cases h : lo ≤ a
  · rw [if_pos h]; simp [h]
  · rw [if_neg h]; simp [h]
end Go.Proofs.YtdemicncljgccaaDoor.Pure

/- Names: what is one, by the program and by the reference: the same, for every text. -/
namespace Go.Proofs.YtdemicncljgccaaDoor.Pure
open Go.RowKit Go.Proofs.YtdemicncljgccaaDoor.Qa Go.Proofs.YtdemicncljgccaaDoorW.PrintWords Go.Proofs.YtdemicncljgccaaDoorW.PrintLast Go.Proofs.YtdemicncljgccaaDoor.Aid

theorem bt_at {s : ByteArray} {i : Nat} (h : i < s.data.toList.length) : bt s (i : Int) = ((s.data.toList[i]).toNat : Int) := by
  have h' : (i : Int).toNat < s.size := by rw [Int.toNat_natCast]; exact h
  unfold bt
  rw [dif_pos h']
  rfl
theorem size_list (s : ByteArray) : s.size = s.data.toList.length := rfl
/-- A sign of a name. -/
def okU (c : UInt8) : Bool := (decide (97 ≤ c.toNat) && decide (c.toNat ≤ 122)) || (decide (48 ≤ c.toNat) && decide (c.toNat ≤ 57))
def nameB (s : ByteArray) : Bool := s.data.toList.all okU && decide (1 ≤ (s.size : Int) ∧ (s.size : Int) ≤ 8)
theorem okU_true {c : UInt8} (h : okU c = true) : (97 ≤ (c.toNat : Int) ∧ (c.toNat : Int) ≤ 122) ∨ (48 ≤ (c.toNat : Int) ∧ (c.toNat : Int) ≤ 57) := by
  unfold okU at h
  simp only [Bool.or_eq_true, Bool.and_eq_true, decide_eq_true_eq] at h
  omega
theorem okU_false {c : UInt8} (h : okU c = false) : ¬ ((97 ≤ (c.toNat : Int) ∧ (c.toNat : Int) ≤ 122) ∨ (48 ≤ (c.toNat : Int) ∧ (c.toNat : Int) ≤ 57)) := by
  intro g
  have : okU c = true := by
    unfold okU
    simp only [Bool.or_eq_true, Bool.and_eq_true, decide_eq_true_eq]
    omega
  rw [h] at this
  cases this
theorem name_spec_l0 (s : ByteArray) (hl : s.size ≤ 4611686018427387904) (d : Nat) : ∀ (i : Nat), i + d = s.size → Ev (fun k => spec_l1Name.l0 k s (i : Int)) ((s.data.toList.drop i).all okU && decide (1 ≤ (s.size : Int) ∧ (s.size : Int) ≤ 8)) := by
  have hs := size_list s
  induction d with
  | zero =>
    intro i h
    rw [drop_end (by omega)]
    exact ev_done fun k => by simp only [spec_l1Name.l0]; rw [if_neg (by omega), spec_l1In_is]; rfl
  | succ d ih =>
    intro i h
    have hi : i < s.data.toList.length := by omega
    rw [drop_at hi, List.all_cons]
    cases c : okU s.data.toList[i] with
    | true =>
      have hc := okU_true c
      rw [Bool.true_and]
      refine ev_step (fun k => spec_l1Name.l0 k s ((i + 1 : Nat) : Int)) (fun k => ?_) (ih (i + 1) (by omega))
      simp only [spec_l1Name.l0]; rw [if_pos (by omega), if_pos (by omega), bt_at hi, wrap_up hi (by omega)]
      by_cases h1 : ((s.data.toList[i]).toNat : Int) < 97
      · rw [if_pos h1, if_neg (by omega), if_neg (by omega)]
      · rw [if_neg h1, if_neg (by omega)]
    | false =>
      have hc := okU_false c
      rw [Bool.false_and, Bool.false_and]
      refine ev_done fun k => ?_
      simp only [spec_l1Name.l0]; rw [if_pos (by omega), if_pos (by omega), bt_at hi]
      by_cases h1 : ((s.data.toList[i]).toNat : Int) < 97
      · rw [if_pos h1]
        by_cases h2 : ((s.data.toList[i]).toNat : Int) < 48
        · rw [if_pos h2]
        · rw [if_neg h2, if_pos (by omega)]
      · rw [if_neg h1, if_pos (by omega), if_neg (by omega), if_pos (by omega)]
theorem name_spec (s : ByteArray) (hl : s.size ≤ 4611686018427387904) : Ev (fun k => spec_l1Name.f k s) (nameB s) := by
  have h := name_spec_l0 s hl s.size 0 (by omega)
  rw [List.drop_zero] at h
  exact h
theorem name_impl_l0 (s : ByteArray) (hl : s.size ≤ 4611686018427387904) (d : Nat) : ∀ (i : Nat), i + d = s.size → Ev (fun k => impl_isName.l0 k s (s.size : Int) (i : Int)) ((s.data.toList.drop i).all okU && decide (1 ≤ (s.size : Int) ∧ (s.size : Int) ≤ 8)) := by
  have hs := size_list s
  induction d with
  | zero =>
    intro i h
    rw [drop_end (by omega)]
    exact ev_done fun k => by simp only [impl_isName.l0]; rw [if_neg (by omega), impl_within_is]; rfl
  | succ d ih =>
    intro i h
    have hi : i < s.data.toList.length := by omega
    rw [drop_at hi, List.all_cons]
    cases c : okU s.data.toList[i] with
    | true =>
      have hc := okU_true c
      rw [Bool.true_and]
      refine ev_step (fun k => impl_isName.l0 k s (s.size : Int) ((i + 1 : Nat) : Int)) (fun k => ?_) (ih (i + 1) (by omega))
      simp only [impl_isName.l0]; rw [if_pos (by omega), if_pos (by omega), if_pos (by omega), bt_at hi, wrap_up hi (by omega)]
      by_cases h1 : ((s.data.toList[i]).toNat : Int) < 97
      · rw [if_pos h1, if_neg (by omega), if_neg (by omega)]
      · rw [if_neg h1, if_neg (by omega)]
    | false =>
      have hc := okU_false c
      rw [Bool.false_and, Bool.false_and]
      refine ev_done fun k => ?_
      simp only [impl_isName.l0]; rw [if_pos (by omega), if_pos (by omega), if_pos (by omega), bt_at hi]
      by_cases h1 : ((s.data.toList[i]).toNat : Int) < 97
      · rw [if_pos h1]
        by_cases h2 : ((s.data.toList[i]).toNat : Int) < 48
        · rw [if_pos h2]
        · rw [if_neg h2, if_pos (by omega)]
      · rw [if_neg h1, if_pos (by omega), if_neg (by omega), if_pos (by omega)]
theorem name_impl (s : ByteArray) (hl : s.size ≤ 4611686018427387904) : Ev (fun k => impl_isName.f k s) (nameB s) := by
  have h := name_impl_l0 s hl s.size 0 (by omega)
  rw [List.drop_zero] at h
  exact h
end Go.Proofs.YtdemicncljgccaaDoor.Pure

/- Paths: a text cut at the marks, by the program (strings.Split) and by the reference: the same; what is wrong with a path: the same, for every text. -/
namespace Go.Proofs.YtdemicncljgccaaDoor.Pure
open Go.RowKit Go.Proofs.YtdemicncljgccaaDoor.Qa Go.Proofs.YtdemicncljgccaaDoorW.PrintWords Go.Proofs.YtdemicncljgccaaDoorW.PrintLast Go.Proofs.YtdemicncljgccaaDoor.Aid

def mkB (l : List UInt8) : ByteArray := ⟨⟨l⟩⟩
theorem eq_mk {t : ByteArray} {l : List UInt8} (h : t.data.toList = l) : t = mkB l := by subst h; rfl
theorem ext_list (s : ByteArray) (a b : Nat) : (s.extract a b).data.toList = (s.data.toList.drop a).take (b - a) := by
  rw [ByteArray.data_extract, Array.toList_extract]
theorem ext_mk (s : ByteArray) (a b : Nat) : s.extract a b = mkB ((s.data.toList.drop a).take (b - a)) := eq_mk (ext_list s a b)
theorem tl (s : ByteArray) : s.toList = s.data.toList := ByteArray.toList_eq s
/-- The pieces of a text between the marks; what stands ahead goes into the first one. -/
def splF : List UInt8 → List UInt8 → List (List UInt8)
  | P, [] => [P]
  | P, c :: l => if c = 47 then P :: splF [] l else splF (P ++ [c]) l
theorem splF_len (l : List UInt8) : ∀ P, (splF P l).length = l.count 47 + 1 := by
  induction l with
  | nil => intro P; rfl
  | cons c l ih =>
    intro P
    unfold splF
    by_cases h : c = 47
    · rw [if_pos h, List.length_cons, ih, h, List.count_cons_self]
    · rw [if_neg h, ih, List.count_cons_of_ne (by simpa using h)]
theorem splF_none (l : List UInt8) : ∀ P, l.count 47 = 0 → splF P l = [P ++ l] := by
  induction l with
  | nil => intro P _; simp [splF]
  | cons c l ih =>
    intro P h
    have hc : c ≠ 47 := fun e => by rw [e, List.count_cons_self] at h; omega
    rw [List.count_cons_of_ne (by simpa using hc)] at h
    unfold splF
    rw [if_neg hc, ih _ h, List.append_assoc]
    rfl
theorem splF_some (l : List UInt8) (h : 0 < l.count 47) : ∃ p, p < l.length ∧ Lib.indexByte l 47 = (p : Int) ∧ (∀ P, splF P l = (P ++ l.take p) :: splF [] (l.drop (p + 1))) ∧ (l.drop (p + 1)).count 47 + 1 = l.count 47 := by
  induction l with
  | nil => simp at h
  | cons c l ih =>
    by_cases hc : c = 47
    · subst hc
      refine ⟨0, by simp, by unfold Lib.indexByte; rfl, fun P => ?_, by simp⟩
      rw [show splF P (47 :: l) = P :: splF [] l from if_pos rfl]
      simp
    · rw [List.count_cons_of_ne (by simpa using hc)] at h ⊢
      obtain ⟨p, h1, h2, h3, h4⟩ := ih h
      refine ⟨p + 1, by simpa using h1, ?_, fun P => ?_, by simpa using h4⟩
      · unfold Lib.indexByte
        rw [if_neg (by simpa using hc), h2, if_neg (by simp)]
        omega
      · rw [show splF P (c :: l) = splF (P ++ [c]) l from if_neg hc, h3]
        simp
/-- The reference's cut. -/
theorem cut_l0 (s : ByteArray) (hs : s.size ≤ 4398046511104) (d : Nat) : ∀ (i f : Nat) (out : List ByteArray), i + d = s.size → f ≤ i → out.length ≤ i → Ev (fun k => spec_l1Cut.l0 k s 47 out (f : Int) (i : Int)) (out ++ (splF ((s.data.toList.drop f).take (i - f)) (s.data.toList.drop i)).map mkB) := by
  have hl := size_list s
  have fin : ∀ (n f : Nat) (out : List ByteArray), s.size < n → Ev (fun k => spec_l1Cut.l0 k s 47 out (f : Int) (n : Int)) out := fun n f out hn => ev_done fun k => by simp only [spec_l1Cut.l0]; rw [if_neg (by omega)]
  induction d with
  | zero =>
    intro i f out h hf ho
    have e : s.data.toList.drop i = [] := drop_end (by omega)
    rw [e]
    have hx := ext_mk s f i
    refine ev_step (fun k => spec_l1Cut.l0 k s 47 (out ++ [s.extract f i]) ((i + 1 : Nat) : Int) ((i + 1 : Nat) : Int)) (fun k => ?_) ?_
    · simp only [spec_l1Cut.l0]; rw [if_pos (by omega), if_pos (by omega), if_pos (by omega), if_pos (by omega), if_pos (by omega), wrap_id (by omega) (by omega)]; rfl
    · rw [hx]
      exact fin _ _ _ (by omega)
  | succ d ih =>
    intro i f out h hf ho
    have hi : i < s.data.toList.length := by omega
    rw [drop_at hi]
    by_cases c : s.data.toList[i] = 47
    · rw [splF, if_pos c]
      have IH := ih (i + 1) (i + 1) (out ++ [s.extract f i]) (by omega) (by omega) (by simp; omega)
      rw [Nat.sub_self, List.take_zero] at IH
      have e : out ++ (((s.data.toList.drop f).take (i - f)) :: splF [] (s.data.toList.drop (i + 1))).map mkB = (out ++ [s.extract f i]) ++ (splF [] (s.data.toList.drop (i + 1))).map mkB := by rw [ext_mk, List.map_cons, List.append_assoc]; rfl
      rw [e]
      refine ev_step (fun k => spec_l1Cut.l0 k s 47 (out ++ [s.extract f i]) ((i + 1 : Nat) : Int) ((i + 1 : Nat) : Int)) (fun k => ?_) IH
      simp only [spec_l1Cut.l0]; rw [if_pos (by omega), if_neg (by omega), if_pos (by omega), if_pos (by omega), bt_at hi, c, if_pos (show ((UInt8.toNat 47 : Nat) : Int) = 47 from rfl), if_pos (by omega), if_pos (by omega), if_pos (by omega), wrap_up hi (by omega)]; rfl
    · rw [splF, if_neg c]
      have e : (s.data.toList.drop f).take (i - f) ++ [s.data.toList[i]] = (s.data.toList.drop f).take (i + 1 - f) := by
        rw [show i + 1 - f = (i - f) + 1 by omega, List.take_succ_eq_append_getElem (by rw [List.length_drop]; omega)]
        congr 2
        rw [List.getElem_drop]
        congr 1
        omega
      rw [e]
      refine ev_step (fun k => spec_l1Cut.l0 k s 47 out (f : Int) ((i + 1 : Nat) : Int)) (fun k => ?_) (ih (i + 1) f out (by omega) (by omega) (by omega))
      have hne : ¬ (((s.data.toList[i]).toNat : Int) = 47) := fun e => c (by
        have e2 : (s.data.toList[i]).toNat = 47 := by omega
        exact UInt8.toNat_inj.1 e2)
      simp only [spec_l1Cut.l0]; rw [if_pos (by omega), if_neg (by omega), if_pos (by omega), if_pos (by omega), bt_at hi, if_neg hne, wrap_up hi (by omega)]
def pieces (s : ByteArray) : List ByteArray := (splF [] s.data.toList).map mkB
theorem pieces_len (s : ByteArray) : (pieces s).length = s.data.toList.count 47 + 1 := by unfold pieces; rw [List.length_map, splF_len]
theorem cut_spec (s : ByteArray) (hs : s.size ≤ 4398046511104) : Ev (fun k => spec_l1Cut.f k s 47) (pieces s) := by
  have h := cut_l0 s hs s.size 0 0 [] (by omega) (by omega) (by simp)
  rw [List.nil_append, Nat.sub_self, List.take_zero, List.drop_zero] at h
  exact h
theorem w_up (p : Nat) (h : p ≤ 4611686018427387904) : wrap64 ((p : Int) + 1) = ((p + 1 : Nat) : Int) := by rw [wrap_id (by omega) (by omega)]; omega
theorem w_one (p : Nat) (h : p ≤ 4611686018427387904) : wrap64 ((p : Int) + ((⟨#[47]⟩ : ByteArray).size : Int)) = ((p + 1 : Nat) : Int) := w_up p h
theorem w_zero (p : Nat) (h : p ≤ 4611686018427387904) : wrap64 ((p : Int) + 0) = (p : Int) := by rw [Int.add_zero]; exact wrap_id (by omega) (by omega)
/-- The program's cut. -/
theorem split_l0 (n : Nat) (hn : n ≤ 4398046511104) (d : Nat) : ∀ (i : Nat) (x : ByteArray) (a : List ByteArray), x.data.toList.count 47 = d → i + d = n → a.length = n + 1 → x.size ≤ 4398046511104 → Ev (fun k => strings_genSplit.l0 k x (⟨#[47]⟩ : ByteArray) 0 (n : Int) a (i : Int)) (a.take i ++ (splF [] x.data.toList).map mkB) := by
  have ix : ∀ x : ByteArray, strings_Index.f x (⟨#[47]⟩ : ByteArray) = some (Lib.indexByte x.data.toList 47) := fun x => if_pos rfl
  induction d with
  | zero =>
    intro i x a hc h ha hx
    have e : a.take i ++ (splF [] x.data.toList).map mkB = (a.set i x).take (i + 1) := by
      rw [splF_none _ _ hc, take_set_snoc (by omega)]
      rfl
    rw [e]
    refine ev_done fun k => ?_
    have q0 : ¬ ((i : Int) < (n : Int)) := by omega
    have q1 : (0 : Int) ≤ (i : Int) := by omega
    have q2 : (i : Int) < (a.length : Int) := by omega
    have q3 : (0 : Int) ≤ ((i + 1 : Nat) : Int) := by omega
    have q4 : ((i + 1 : Nat) : Int) ≤ (a.length : Int) := by omega
    have wi := w_up i (by omega)
    simp only [strings_genSplit.l0, wi, q0, q1, q2, q3, q4, if_true, if_false, Int.toNat_natCast]
  | succ d ih =>
    intro i x a hc h ha hx
    obtain ⟨p, h1, h2, h3, h4⟩ := splF_some x.data.toList (by omega)
    have hl := size_list x
    have e1 : x.extract 0 p = mkB (x.data.toList.take p) := by rw [ext_mk]; rfl
    have e2 : (x.extract (p + 1) x.size).data.toList = x.data.toList.drop (p + 1) := by rw [ext_list, List.take_of_length_le (by rw [List.length_drop]; omega)]
    have IH := ih (i + 1) (x.extract (p + 1) x.size) (a.set i (x.extract 0 p)) (by rw [e2]; omega) (by omega) (by rw [List.length_set]; exact ha) (by rw [size_list, e2, List.length_drop]; omega)
    have e : a.take i ++ (splF [] x.data.toList).map mkB = (a.set i (x.extract 0 p)).take (i + 1) ++ (splF [] (x.extract (p + 1) x.size).data.toList).map mkB := by
      rw [e2, h3, take_set_snoc (by omega), List.append_assoc, e1]
      rfl
    rw [e]
    refine ev_step (fun k => strings_genSplit.l0 k (x.extract (p + 1) x.size) (⟨#[47]⟩ : ByteArray) 0 (n : Int) (a.set i (x.extract 0 p)) ((i + 1 : Nat) : Int)) (fun k => ?_) IH
    have q0 : (i : Int) < (n : Int) := by omega
    have q1 : (0 : Int) ≤ (i : Int) := by omega
    have q2 : (i : Int) < (a.length : Int) := by omega
    have q3 : (0 : Int) ≤ ((p + 1 : Nat) : Int) := by omega
    have q4 : ((p + 1 : Nat) : Int) ≤ (x.size : Int) := by omega
    have q5 : (0 : Int) ≤ (p : Int) := by omega
    have q6 : (p : Int) ≤ (x.size : Int) := by omega
    have q7 : ¬ ((p : Int) < 0) := by omega
    have hp_ : p ≤ 4611686018427387904 := by omega
    have hi_ : i ≤ 4611686018427387904 := by omega
    have wi := w_up i hi_
    have w1 := w_one p hp_
    have w0 := w_zero p hp_
    simp only [strings_genSplit.l0]
    rw [if_pos q0, ix, Option.bind_some, h2, if_neg q7, w0, if_pos q5, if_pos q6, if_pos q1, if_pos q2, w1, if_pos q3, if_pos q4, wi, Int.toNat_natCast, Int.toNat_natCast, Int.toNat_natCast]
theorem split_impl (s : ByteArray) (hs : s.size ≤ 1099511627776) : Ev (fun k => strings_Split.f k s (⟨#[47]⟩ : ByteArray)) (pieces s) := by
  have hl := size_list s
  have hle : s.data.toList.count 47 ≤ s.size := by rw [hl]; exact List.count_le_length
  have h := split_l0 (s.data.toList.count 47) (by omega) (s.data.toList.count 47) 0 s (List.replicate (s.data.toList.count 47 + 1) (⟨#[]⟩ : ByteArray)) rfl (by omega) (by simp) (by omega)
  have ct : strings_Count.f s (⟨#[47]⟩ : ByteArray) = some ((s.data.toList.count 47 : Nat) : Int) := if_pos rfl
  have en : wrap64 (((s.data.toList.count 47 : Nat) : Int) + 1) = ((s.data.toList.count 47 + 1 : Nat) : Int) := by rw [wrap_id (by omega) (by omega)]; omega
  have hm : mn ((s.data.toList.count 47 + 1 : Nat) : Int) (wrap64 ((s.size : Int) + 1)) = ((s.data.toList.count 47 + 1 : Nat) : Int) := by
    rw [wrap_id (by omega) (by omega)]
    unfold mn
    by_cases h : (s.size : Int) + 1 < ((s.data.toList.count 47 + 1 : Nat) : Int)
    · omega
    · rw [if_neg h]
  have hm1 : wrap64 (((s.data.toList.count 47 + 1 : Nat) : Int) - 1) = ((s.data.toList.count 47 : Nat) : Int) := by rw [wrap_id (by omega) (by omega)]; omega
  rw [List.take_zero, List.nil_append] at h
  unfold strings_Split.f
  refine ev_call (a := pieces s) ?_ (Ev.now _)
  unfold strings_genSplit.f
  refine ev_cong (fun k => (if_neg (by omega)).trans ((if_neg (by rw [tl]; simp)).trans (if_pos (by omega)))) ?_
  simp only [ct, Option.bind_some, en]
  refine ev_step _ (fun k => ?_) h
  simp only [strings_genSplit.j0]; rw [hm, if_pos (by omega), if_pos (by omega), hm1, Int.toNat_natCast]; rfl
end Go.Proofs.YtdemicncljgccaaDoor.Pure

/- What is wrong with a path: by the program and by the reference the same, for every text. -/
namespace Go.Proofs.YtdemicncljgccaaDoor.Pure
open Go.RowKit Go.Proofs.YtdemicncljgccaaDoor.Qa Go.Proofs.YtdemicncljgccaaDoorW.PrintWords Go.Proofs.YtdemicncljgccaaDoorW.PrintLast Go.Proofs.YtdemicncljgccaaDoor.Aid

theorem splF_size (l : List UInt8) : ∀ P, ∀ x ∈ splF P l, x.length ≤ P.length + l.length := by
  induction l with
  | nil => intro P x hx; rw [splF, List.mem_singleton] at hx; subst hx; omega
  | cons c l ih =>
    intro P x hx
    unfold splF at hx
    by_cases h : c = 47
    · rw [if_pos h] at hx
      rcases List.mem_cons.1 hx with rfl | hx
      · omega
      · have := ih [] x hx; simp at this ⊢; omega
    · rw [if_neg h] at hx
      have := ih _ x hx
      simp at this ⊢
      omega
theorem pieces_size (s : ByteArray) : ∀ x ∈ pieces s, x.size ≤ s.size := by
  intro x hx
  obtain ⟨l, hl, rfl⟩ := List.mem_map.1 hx
  have := splF_size s.data.toList [] l hl
  have e : (mkB l).size = l.length := rfl
  rw [List.length_nil] at this
  rw [e, size_list s]
  omega
def headR (s : ByteArray) : ByteArray := rdOf ByteArray.empty (pieces s) 0
def namesR (s : ByteArray) : List ByteArray × Bool :=
  if s.data.toList = [47] then ([], true) else if (pieces s).length < 2 then ([], false) else if (headR s).data.toList = [] then (if ((pieces s).drop 1).all nameB = true then ((pieces s).drop 1, true) else ([], false)) else ([], false)
def faultR (s : ByteArray) : Int :=
  if 24 < s.size then 2 else if s.data.toList = [47] then 0 else if 5 < (pieces s).length then 2 else if (namesR s).2 = true then 0 else 5
theorem head_bne (s : ByteArray) : ((rdOf ByteArray.empty (pieces s) 0).toList != ([] : List UInt8)) = !decide ((headR s).data.toList = []) := by
  unfold headR
  rw [tl]
  by_cases h : (rdOf ByteArray.empty (pieces s) 0).data.toList = []
  · rw [h]; rfl
  · rw [decide_eq_false h]
    exact bne_iff_ne.2 h
theorem fault_l0 (W : List ByteArray) (hW : ∀ x ∈ W, x.size ≤ 1048576) (hl : W.length ≤ 1048576) (d : Nat) : ∀ (i : Nat), i + d = W.length → Ev (fun k => impl_PathFault.l0 k W (W.length : Int) (i : Int)) (if (W.drop i).all nameB = true then 0 else 5) := by
  induction d with
  | zero =>
    intro i h
    rw [drop_end (by omega)]
    exact ev_done fun k => by simp only [impl_PathFault.l0]; rw [if_neg (by omega)]; rfl
  | succ d ih =>
    intro i h
    have hi : i < W.length := by omega
    have hx := hW W[i] (List.getElem_mem hi)
    rw [drop_at hi, List.all_cons]
    refine ev_step _ (fun k => by simp only [impl_PathFault.l0]; rw [if_pos (by omega), if_pos (by omega), if_pos (by omega), rdOf_at hi, wrap_up hi (by omega)]) (ev_call (name_impl W[i] (by omega)) ?_)
    cases c : nameB W[i] with
    | true => exact ev_cong (fun k => if_pos rfl) (by rw [Bool.true_and]; exact ih (i + 1) (by omega))
    | false => exact ev_is fun k => if_neg (by simp)
theorem names_l0 (W : List ByteArray) (hW : ∀ x ∈ W, x.size ≤ 1048576) (hl : W.length ≤ 1048576) (h1 : 1 ≤ W.length) (d : Nat) : ∀ (i : Nat), i + d = W.length → Ev (fun k => spec_l1Names.l0 k W (i : Int)) (if (W.drop i).all nameB = true then (W.drop 1, true) else ([], false)) := by
  induction d with
  | zero =>
    intro i h
    rw [drop_end (by omega)]
    exact ev_done fun k => by simp only [spec_l1Names.l0]; rw [if_neg (by omega), if_pos (by omega)]; rfl
  | succ d ih =>
    intro i h
    have hi : i < W.length := by omega
    have hx := hW W[i] (List.getElem_mem hi)
    rw [drop_at hi, List.all_cons]
    refine ev_step _ (fun k => by simp only [spec_l1Names.l0]; rw [if_pos (by omega), if_pos (by omega), rdOf_at hi, wrap_up hi (by omega)]) (ev_call (name_spec W[i] (by omega)) ?_)
    cases c : nameB W[i] with
    | true => exact ev_cong (fun k => if_pos rfl) (by rw [Bool.true_and]; exact ih (i + 1) (by omega))
    | false => exact ev_is fun k => if_neg (by simp)
theorem pieces_le (s : ByteArray) : (pieces s).length ≤ s.size + 1 := by
  have : s.data.toList.count 47 ≤ s.data.toList.length := List.count_le_length
  rw [pieces_len, size_list]
  omega
theorem names_spec (s : ByteArray) (hs : s.size ≤ 24) : Ev (fun k => spec_l1Names.f k s) (namesR s) := by
  have hl := pieces_le s
  unfold spec_l1Names.f namesR
  by_cases h : s.data.toList = [47]
  · rw [if_pos h]
    exact ev_is fun k => if_pos (by rw [tl]; exact h)
  · rw [if_neg h]
    refine ev_cong (fun k => if_neg (by rw [tl]; exact h)) (ev_call (cut_spec s (by omega)) ?_)
    by_cases h2 : (pieces s).length < 2
    · rw [if_pos h2]
      exact ev_cong (fun k => if_pos (by omega)) (ev_done fun k => by simp only [spec_l1Names.j0]; exact if_pos trivial)
    · rw [if_neg h2]
      refine ev_cong (fun k => (if_neg (by omega)).trans (if_pos (by omega))) ?_
      rw [head_bne]
      by_cases h3 : (headR s).data.toList = []
      · rw [if_pos h3]
        refine ev_step _ (fun k => by simp only [spec_l1Names.j0]; rw [if_neg (by simp [h3])]) ?_
        exact names_l0 (pieces s) (fun x hx => by have := pieces_size s x hx; omega) (by omega) (by omega) ((pieces s).length - 1) 1 (by omega)
      · rw [if_neg h3]
        exact ev_done fun k => by simp only [spec_l1Names.j0]; exact if_pos (by simp [h3])
theorem fault_spec (s : ByteArray) : Ev (fun k => spec_l1Fault.f k s) (faultR s) := by
  unfold spec_l1Fault.f faultR
  by_cases h : 24 < s.size
  · rw [if_pos h]
    exact ev_cong (fun k => if_pos (by omega)) (ev_done fun k => by simp only [spec_l1Fault.j0]; exact if_pos trivial)
  · rw [if_neg h]
    have tail : Ev (fun k => spec_l1Fault.j0 k s false) (if (namesR s).2 = true then 0 else 5) := by
      refine ev_step _ (fun k => by simp only [spec_l1Fault.j0]; rw [if_neg (by simp)]) (ev_call (names_spec s (by omega)) ?_)
      exact ev_is fun k => by by_cases h4 : (namesR s).2 = true <;> simp [h4]
    refine ev_cong (fun k => if_neg (by omega)) ?_
    by_cases h47 : s.data.toList = [47]
    · rw [if_pos h47]
      refine ev_cong (fun k => if_pos (by rw [tl]; exact h47)) ?_
      have e : (namesR s).2 = true := by unfold namesR; rw [if_pos h47]
      rw [if_pos e] at tail
      exact tail
    · rw [if_neg h47]
      refine ev_cong (fun k => if_neg (by rw [tl]; exact h47)) (ev_call (cut_spec s (by omega)) ?_)
      by_cases h5 : 5 < (pieces s).length
      · rw [if_pos h5, show decide (((pieces s).length : Int) > 5) = true from decide_eq_true (by omega)]
        exact ev_done fun k => by simp only [spec_l1Fault.j0]; exact if_pos trivial
      · rw [if_neg h5, show decide (((pieces s).length : Int) > 5) = false from decide_eq_false (by omega)]
        exact tail
theorem fault_impl (s : ByteArray) : Ev (fun k => impl_PathFault.f k s) (faultR s) := by
  unfold impl_PathFault.f faultR
  by_cases h : 24 < s.size
  · rw [if_pos h]
    exact ev_cong (fun k => if_pos (by omega)) (ev_done fun k => by simp only [impl_PathFault.j0]; exact if_pos trivial)
  · rw [if_neg h]
    have ct : strings_Count.f s (⟨#[47]⟩ : ByteArray) = some ((s.data.toList.count 47 : Nat) : Int) := if_pos rfl
    have pl := pieces_len s
    have hl := pieces_le s
    refine ev_cong (fun k => (if_neg (by omega)).trans (by rw [ct, Option.bind_some])) ?_
    by_cases h47 : s.data.toList = [47]
    · rw [if_pos h47, h47]
      refine ev_done fun k => ?_
      simp only [impl_PathFault.j0]; rw [if_neg (by decide), if_pos (by rw [tl]; exact h47)]
    · rw [if_neg h47]
      by_cases h5 : 5 < (pieces s).length
      · rw [if_pos h5, show decide (((s.data.toList.count 47 : Nat) : Int) > 4) = true from decide_eq_true (by omega)]
        exact ev_done fun k => by simp only [impl_PathFault.j0]; exact if_pos trivial
      · rw [if_neg h5, show decide (((s.data.toList.count 47 : Nat) : Int) > 4) = false from decide_eq_false (by omega)]
        refine ev_step _ (fun k => by simp only [impl_PathFault.j0]; rw [if_neg (by simp), if_neg (by rw [tl]; exact h47)]) (ev_call (split_impl s (by omega)) ?_)
        unfold namesR
        rw [if_neg h47]
        by_cases h2 : (pieces s).length < 2
        · rw [if_pos h2, if_neg (by simp)]
          exact ev_cong (fun k => if_pos (by omega)) (ev_done fun k => by simp only [impl_PathFault.j1]; exact if_pos trivial)
        · rw [if_neg h2]
          refine ev_cong (fun k => (if_neg (by omega)).trans (if_pos (by omega))) ?_
          rw [head_bne]
          by_cases h3 : (headR s).data.toList = []
          · rw [if_pos h3]
            refine ev_step _ (fun k => by simp only [impl_PathFault.j1]; rw [if_neg (by simp [h3]), if_pos (by omega), Option.bind_some]) ?_
            have := fault_l0 ((pieces s).drop 1) (fun x hx => by have := pieces_size s x (List.mem_of_mem_drop hx); omega) (by rw [List.length_drop]; omega) ((pieces s).drop 1).length 0 (by omega)
            rw [List.drop_zero] at this
            by_cases h6 : ((pieces s).drop 1).all nameB = true
            · rw [if_pos h6] at this ⊢; exact this
            · rw [if_neg h6] at this ⊢; exact this
          · rw [if_neg h3, if_neg (by simp)]
            exact ev_done fun k => by simp only [impl_PathFault.j1]; exact if_pos (by simp [h3])
/-- What is known of a path that has no fault. -/
theorem fault_zero {s : ByteArray} (h : faultR s = 0) : s.size ≤ 24 ∧ (s.data.toList = [47] ∨ s.data.toList ≠ [47] ∧ namesR s = ((pieces s).drop 1, true) ∧ 0 < s.data.toList.count 47) := by
  unfold faultR at h
  by_cases h1 : 24 < s.size
  · rw [if_pos h1] at h; omega
  · rw [if_neg h1] at h
    refine ⟨by omega, ?_⟩
    by_cases h2 : s.data.toList = [47]
    · exact .inl h2
    · rw [if_neg h2] at h
      refine .inr ⟨h2, ?_⟩
      by_cases h5 : 5 < (pieces s).length
      · rw [if_pos h5] at h; omega
      · rw [if_neg h5] at h
        have pl := pieces_len s
        by_cases h6 : (namesR s).2 = true
        · have h7 := h6
          unfold namesR at h6 ⊢
          rw [if_neg h2] at h6 ⊢
          by_cases h8 : (pieces s).length < 2
          · rw [if_pos h8] at h6; cases h6
          · rw [if_neg h8] at h6 ⊢
            by_cases h9 : (headR s).data.toList = []
            · rw [if_pos h9] at h6 ⊢
              by_cases h10 : ((pieces s).drop 1).all nameB = true
              · rw [if_pos h10]; exact ⟨rfl, by omega⟩
              · rw [if_neg h10] at h6; cases h6
            · rw [if_neg h9] at h6; cases h6
        · rw [if_neg h6] at h; omega
end Go.Proofs.YtdemicncljgccaaDoor.Pure

/- The last mark of a path: by the program (strings.LastIndex) and by the reference the same. -/
namespace Go.Proofs.YtdemicncljgccaaDoor.Pure
open Go.RowKit Go.Proofs.YtdemicncljgccaaDoor.Qa Go.Proofs.YtdemicncljgccaaDoorW.PrintWords Go.Proofs.YtdemicncljgccaaDoorW.PrintLast Go.Proofs.YtdemicncljgccaaDoor.Aid
theorem last_exists (l : List UInt8) (h : 0 < l.count 47) : ∃ (p : Nat) (hp : p < l.length), l[p] = 47 ∧ ∀ (j : Nat) (hj : j < l.length), p < j → l[j] ≠ 47 := by
  induction l with
  | nil => simp at h
  | cons c l ih =>
    by_cases h0 : 0 < l.count 47
    · obtain ⟨p, hp, h1, h2⟩ := ih h0
      refine ⟨p + 1, by simpa using hp, by simpa using h1, fun j hj hlt => ?_⟩
      cases j with
      | zero => omega
      | succ j => simpa using h2 j (by simpa using hj) (by omega)
    · have hc : c = 47 := by
        by_cases hc : c = 47
        · exact hc
        · rw [List.count_cons_of_ne (by simpa using hc)] at h
          exact absurd h h0
      refine ⟨0, by simp, by simpa using hc, fun j hj hlt => ?_⟩
      cases j with
      | zero => omega
      | succ j =>
        intro e
        have e' : l[j]'(by simpa using hj) = 47 := by simpa using e
        exact h0 (List.count_pos_iff.2 (e' ▸ List.getElem_mem _))
theorem ne_int {c : UInt8} (h : c ≠ 47) : ¬ ((c.toNat : Int) = 47) := fun e => h (by
  have e2 : c.toNat = 47 := by omega
  exact UInt8.toNat_inj.1 e2)
theorem last_spec_l0 (s : ByteArray) (hs : s.size ≤ 24) (p : Nat) (hp : p < s.data.toList.length) (h1 : s.data.toList[p] = 47) (h2 : ∀ (j : Nat) (hj : j < s.data.toList.length), p < j → s.data.toList[j] ≠ 47) (d : Nat) : ∀ (i : Nat) (x : Int), i + d = s.size → (p < i → x = (p : Int)) → Ev (fun k => spec_l1Last.l0 k s x (i : Int)) (p : Int) := by
  have hl := size_list s
  induction d with
  | zero =>
    intro i x h hx
    rw [hx (by omega)]
    exact ev_done fun k => by simp only [spec_l1Last.l0]; rw [if_neg (by omega)]
  | succ d ih =>
    intro i x h hx
    have hi : i < s.data.toList.length := by omega
    have q0 : (i : Int) < (s.size : Int) := by omega
    have q1 : (0 : Int) ≤ (i : Int) := by omega
    have wi := w_up i (by omega)
    by_cases c : s.data.toList[i] = 47
    · have hip : ¬ p < i := fun hlt => h2 i hi hlt c
      refine ev_step (fun k => spec_l1Last.l0 k s (i : Int) ((i + 1 : Nat) : Int)) (fun k => ?_) (ih (i + 1) (i : Int) (by omega) (fun hlt => by omega))
      simp only [spec_l1Last.l0]; rw [if_pos q0, if_pos q1, bt_at hi, c, if_pos (show ((UInt8.toNat 47 : Nat) : Int) = 47 from rfl), wi]
    · have hip : i ≠ p := fun e => c (by subst e; exact h1)
      refine ev_step (fun k => spec_l1Last.l0 k s x ((i + 1 : Nat) : Int)) (fun k => ?_) (ih (i + 1) x (by omega) (fun hlt => hx (by omega)))
      simp only [spec_l1Last.l0]; rw [if_pos q0, if_pos q1, bt_at hi, if_neg (ne_int c), wi]
theorem last_impl_l0 (s : ByteArray) (hs : s.size ≤ 24) (p : Nat) (hp : p < s.data.toList.length) (h1 : s.data.toList[p] = 47) (h2 : ∀ (j : Nat) (hj : j < s.data.toList.length), p < j → s.data.toList[j] ≠ 47) (d : Nat) : p + d < s.data.toList.length → Ev (fun k => bytealg_LastIndexByteString.l0 k s 47 ((p + d : Nat) : Int)) (p : Int) := by
  have hl := size_list s
  induction d with
  | zero =>
    intro _
    have q0 : ((p + 0 : Nat) : Int) < (s.size : Int) := by omega
    have q1 : (0 : Int) ≤ ((p + 0 : Nat) : Int) := by omega
    refine ev_done fun k => ?_
    simp only [bytealg_LastIndexByteString.l0]; rw [if_pos q1, if_pos q1, if_pos q0, bt_at (show p + 0 < s.data.toList.length from hp), if_pos (by simp only [Nat.add_zero, h1]; rfl)]
    rfl
  | succ d ih =>
    intro hd
    have q0 : ((p + (d + 1) : Nat) : Int) < (s.size : Int) := by omega
    have q1 : (0 : Int) ≤ ((p + (d + 1) : Nat) : Int) := by omega
    have wi : wrap64 (((p + (d + 1) : Nat) : Int) - 1) = ((p + d : Nat) : Int) := by rw [wrap_id (by omega) (by omega)]; omega
    refine ev_step (fun k => bytealg_LastIndexByteString.l0 k s 47 ((p + d : Nat) : Int)) (fun k => ?_) (ih (by omega))
    simp only [bytealg_LastIndexByteString.l0]; rw [if_pos q1, if_pos q1, if_pos q0, bt_at hd, if_neg (ne_int (h2 _ hd (by omega))), wi]
/-- Where the last mark is. -/
theorem last_both (s : ByteArray) (hs : s.size ≤ 24) (h : 0 < s.data.toList.count 47) : ∃ (p : Nat) (hp : p < s.data.toList.length), s.data.toList[p] = 47 ∧ Ev (fun k => spec_l1Last.f k s) (p : Int) ∧ Ev (fun k => strings_LastIndex.f k s (⟨#[47]⟩ : ByteArray)) (p : Int) := by
  have hl := size_list s
  obtain ⟨p, hp, h1, h2⟩ := last_exists _ h
  refine ⟨p, hp, h1, last_spec_l0 s hs p hp h1 h2 s.size 0 0 (by omega) (fun h => by omega), ?_⟩
  have hd := last_impl_l0 s hs p hp h1 h2 (s.data.toList.length - 1 - p) (by omega)
  have e : wrap64 ((s.size : Int) - 1) = ((p + (s.data.toList.length - 1 - p) : Nat) : Int) := by rw [wrap_id (by omega) (by omega)]; omega
  have e1 : ((⟨#[47]⟩ : ByteArray).size : Int) = 1 := rfl
  have e2 : bt (⟨#[47]⟩ : ByteArray) 0 = 47 := rfl
  unfold strings_LastIndex.f
  rw [e1, e2]
  refine ev_cong (fun k => (if_neg (by omega)).trans ((if_pos rfl).trans (if_pos (by omega)))) (ev_call (a := (p : Int)) ?_ (Ev.now _))
  unfold bytealg_LastIndexByteString.f
  rw [e]
  exact hd
theorem parted_both (s : ByteArray) (hs : s.size ≤ 24) (h : 0 < s.data.toList.count 47) : ∃ (u n : ByteArray), Ev (fun k => impl_parted.f k s) (u, n) ∧ (∃ p : Nat, p < s.size ∧ n = s.extract (p + 1) s.size ∧ u = (if p = 0 then (⟨#[47]⟩ : ByteArray) else s.extract 0 p) ∧ Ev (fun k => spec_l1Last.f k s) (p : Int)) := by
  have hl := size_list s
  obtain ⟨p, hp, h1, h2, h3⟩ := last_both s hs h
  have hz : s.extract 0 1 = mkB [s.data.toList[0]] := by
    rw [ext_mk]
    congr 1
    rw [show (1 : Nat) - 0 = 0 + 1 from rfl, List.drop_zero, List.take_succ_eq_append_getElem (by omega)]
    rfl
  refine ⟨if p = 0 then (⟨#[47]⟩ : ByteArray) else s.extract 0 p, s.extract (p + 1) s.size, ?_, p, by omega, rfl, rfl, h2⟩
  unfold impl_parted.f
  refine ev_call h3 (ev_is fun k => ?_)
  have wi := w_up p (by omega)
  have q3 : (0 : Int) ≤ ((p + 1 : Nat) : Int) := by omega
  have q4 : ((p + 1 : Nat) : Int) ≤ (s.size : Int) := by omega
  by_cases c : p = 0
  · subst c
    have m : mx ((0 : Nat) : Int) 1 = 1 := rfl
    rw [m, if_pos (by omega), if_pos (by omega), wi, if_pos q3, if_pos q4, if_pos rfl, show ((1 : Int).toNat) = 1 from rfl, hz, h1, Int.toNat_natCast]
    rfl
  · have m : mx (p : Int) 1 = (p : Int) := by unfold mx; rw [if_neg (by omega)]
    rw [m, if_pos (by omega), if_pos (by omega), wi, if_pos q3, if_pos q4, if_neg c, Int.toNat_natCast, Int.toNat_natCast]
end Go.Proofs.YtdemicncljgccaaDoor.Pure

/- Texts in order: what a comparison of two texts says of their bytes; searches in rising lists. -/
namespace Go.Proofs.YtdemicncljgccaaDoor.Aid
open Go.RowKit Go.Proofs.YtdemicncljgccaaDoorW.PrintWords

theorem u8_tri (a b : UInt8) (h1 : ¬ a < b) (h2 : ¬ b < a) : a = b := by
  have e1 : ¬ a.toNat < b.toNat := h1
  have e2 : ¬ b.toNat < a.toNat := h2
  exact UInt8.toNat_inj.1 (by omega)
theorem bl_lt : ∀ (x y : List UInt8), Op.bytesLess x y = decide (x < y)
  | [], [] => by simp [Op.bytesLess]
  | _ :: _, [] => by simp [Op.bytesLess]
  | [], _ :: _ => by simp [Op.bytesLess]
  | a :: x, b :: y => by
    rw [Op.bytesLess, bl_lt x y]
    rw [Bool.eq_iff_iff]
    simp [List.cons_lt_cons_iff]
theorem cmp_is : ∀ (x y : List UInt8), Lib.compareBytes x y = if x < y then -1 else if x = y then 0 else 1
  | [], [] => by simp [Lib.compareBytes]
  | _ :: _, [] => by simp [Lib.compareBytes]
  | [], _ :: _ => by simp [Lib.compareBytes]
  | a :: x, b :: y => by
    rw [Lib.compareBytes, cmp_is x y]
    by_cases h1 : a < b
    · rw [if_pos h1, if_pos (List.cons_lt_cons_iff.2 (.inl h1))]
    · rw [if_neg h1]
      by_cases h2 : b < a
      · have hne : a ≠ b := fun e => by subst e; exact h1 h2
        rw [if_pos h2, if_neg (fun h => by
          rcases List.cons_lt_cons_iff.1 h with h | ⟨h, _⟩
          · exact h1 h
          · exact hne h), if_neg (fun h => hne (List.cons.inj h).1)]
      · have e := u8_tri a b h1 h2
        subst e
        rw [if_neg h2]
        by_cases h3 : x < y
        · rw [if_pos h3, if_pos (List.cons_lt_cons_iff.2 (.inr ⟨rfl, h3⟩))]
        · have h5 : ¬ (a :: x < a :: y) := fun h => by
            rcases List.cons_lt_cons_iff.1 h with h | ⟨_, h⟩
            · exact h1 h
            · exact h3 h
          rw [if_neg h3, if_neg h5]
          by_cases h4 : x = y
          · subst h4
            rw [if_pos rfl, if_pos rfl]
          · have h6 : ¬ (a :: x = a :: y) := fun h => h4 (List.cons.inj h).2
            rw [if_neg h4, if_neg h6]
theorem lt_irr (x : List UInt8) : ¬ x < x := List.lt_irrefl x
theorem lt_tr {x y z : List UInt8} (h : x < y) (k : y < z) : x < z := List.lt_trans h k
theorem lt_tri {x y : List UInt8} (h : ¬ x < y) (k : ¬ x = y) : y < x := by
  have := cmp_is x y
  rw [if_neg h, if_neg k] at this
  rcases Decidable.em (y < x) with c | c
  · exact c
  · exact absurd (List.le_antisymm c h) k
theorem ba_ext {a b : ByteArray} (h : a.data.toList = b.data.toList) : a = b := by
  obtain ⟨⟨a⟩⟩ := a
  obtain ⟨⟨b⟩⟩ := b
  exact congrArg (fun l => (⟨⟨l⟩⟩ : ByteArray)) h
/-- The place of a key in a list that rises. -/
def posK {α : Type} (key : α → List UInt8) (l : List α) (q : List UInt8) : Nat := (l.takeWhile (fun z => decide (key z < q))).length
def hereK {α : Type} (key : α → List UInt8) (l : List α) (q : List UInt8) : Bool := match l[posK key l q]? with
  | some z => decide (key z = q)
  | none => false
def Rises {α : Type} (key : α → List UInt8) (l : List α) : Prop := l.Pairwise (fun x y => key x < key y)
theorem posK_le {α : Type} (key : α → List UInt8) (l : List α) (q : List UInt8) : posK key l q ≤ l.length := take_pos_le _ l
theorem posK_iff {α : Type} {key : α → List UInt8} {l : List α} (h : Rises key l) (q : List UInt8) (j : Nat) (hj : j < l.length) : key l[j] < q ↔ j < posK key l q := by
  have := take_pos (fun z : α => decide (key z < q)) l (h.imp (fun {x y} hxy hy => decide_eq_true (lt_tr hxy (of_decide_eq_true hy)))) j hj
  rw [decide_eq_true_eq] at this
  exact this
theorem hereK_lt {α : Type} {key : α → List UInt8} {l : List α} {q : List UInt8} (h : hereK key l q = true) : posK key l q < l.length := by
  unfold hereK at h
  cases hp : l[posK key l q]? with
  | none => rw [hp] at h; cases h
  | some s => exact (List.getElem?_eq_some_iff.1 hp).1
theorem hereK_eq {α : Type} {key : α → List UInt8} {l : List α} {q : List UInt8} (h : hereK key l q = true) : key (l[posK key l q]'(hereK_lt h)) = q := by
  have hp := hereK_lt h
  unfold hereK at h
  rw [List.getElem?_eq_getElem hp] at h
  exact of_decide_eq_true h
theorem hereK_at {α : Type} {key : α → List UInt8} {l : List α} (h : Rises key l) (j : Nat) (hj : j < l.length) : posK key l (key l[j]) = j ∧ hereK key l (key l[j]) = true := by
  have h1 := (posK_iff h (key l[j]) j hj)
  have h2 : ¬ j < posK key l (key l[j]) := fun c => lt_irr _ (h1.2 c)
  have h3 : ¬ posK key l (key l[j]) < j := fun c => by
    have hp : posK key l (key l[j]) < l.length := by omega
    have := (List.pairwise_iff_getElem.1 h) _ _ hp hj c
    have := (posK_iff h (key l[j]) _ hp).1 this
    omega
  have e : posK key l (key l[j]) = j := by omega
  refine ⟨e, ?_⟩
  unfold hereK
  rw [e, List.getElem?_eq_getElem hj]
  exact decide_eq_true rfl
theorem hereK_mem {α : Type} {key : α → List UInt8} {l : List α} (h : Rises key l) {z : α} (hz : z ∈ l) : hereK key l (key z) = true := by
  obtain ⟨j, hj, rfl⟩ := List.getElem_of_mem hz
  exact (hereK_at h j hj).2
/-- Behind its place all are greater. -/
theorem posK_gt {α : Type} {key : α → List UInt8} {l : List α} (h : Rises key l) (q : List UInt8) (hq : hereK key l q = false) (j : Nat) (hj : j < l.length) : key l[j] ≠ q := by
  intro e
  have := (hereK_at h j hj).2
  rw [e, hq] at this
  cases this
end Go.Proofs.YtdemicncljgccaaDoor.Aid

/- What is wrong with a tree, in plain words of lists; paths' parents. -/
namespace Go.Proofs.YtdemicncljgccaaDoor.Pure
open Go.RowKit Go.Proofs.YtdemicncljgccaaDoor.Qa Go.Proofs.YtdemicncljgccaaDoorW.PrintWords Go.Proofs.YtdemicncljgccaaDoorW.PrintLast Go.Proofs.YtdemicncljgccaaDoor.Aid

theorem splF_head : ∀ (l P : List UInt8), P ≠ [] → ∃ x r, splF P l = x :: r ∧ x ≠ []
  | [], P, h => ⟨P, [], rfl, h⟩
  | c :: l, P, h => by
    unfold splF
    by_cases hc : c = 47
    · rw [if_pos hc]; exact ⟨P, _, rfl, h⟩
    · rw [if_neg hc]; exact splF_head l _ (by simp)
/-- A path that has no fault begins with a mark. -/
theorem path_mark {s : ByteArray} (h : faultR s = 0) : s.size ≤ 24 ∧ (∃ t, s.data.toList = 47 :: t) ∧ 0 < s.data.toList.count 47 := by
  have hl := size_list s
  obtain ⟨h1, h2⟩ := fault_zero h
  refine ⟨h1, ?_⟩
  rcases h2 with h2 | ⟨h2, h3, h4⟩
  · rw [h2]; exact ⟨⟨[], rfl⟩, by decide⟩
  · refine ⟨?_, h4⟩
    have hn : (namesR s).2 = true := by rw [h3]
    unfold namesR at hn
    rw [if_neg h2] at hn
    by_cases h5 : (pieces s).length < 2
    · rw [if_pos h5] at hn; cases hn
    · rw [if_neg h5] at hn
      by_cases h6 : (headR s).data.toList = []
      · cases hs : s.data.toList with
        | nil => rw [hs] at h4; simp at h4
        | cons c t =>
          by_cases hc : c = 47
          · exact ⟨t, by rw [hc]⟩
          · exfalso
            obtain ⟨x, r, hx, hne⟩ := splF_head t [c] (by simp)
            have e : pieces s = (x :: r).map mkB := by
              unfold pieces
              rw [hs, splF, if_neg hc, List.nil_append, hx]
            unfold headR at h6
            rw [e, List.map_cons] at h6
            exact hne h6
      · rw [if_neg h6] at hn; cases hn

/-- The parent and the last name of a path. -/
theorem up_ex (s : ByteArray) (h : faultR s = 0) : ∃ un : ByteArray × ByteArray, Ev (fun k => impl_parted.f k s) un ∧ ∃ p : Nat, p < s.size ∧ un.2 = s.extract (p + 1) s.size ∧ un.1 = (if p = 0 then (⟨#[47]⟩ : ByteArray) else s.extract 0 p) ∧ Ev (fun k => spec_l1Last.f k s) (p : Int) := by
  obtain ⟨h1, _, h3⟩ := path_mark h
  obtain ⟨u, n, h4, p, h5⟩ := parted_both s h1 h3
  exact ⟨(u, n), h4, p, h5⟩
open Classical in
noncomputable def upN (s : ByteArray) : ByteArray × ByteArray := if h : faultR s = 0 then (up_ex s h).choose else (⟨#[]⟩, ⟨#[]⟩)
noncomputable def upR (s : ByteArray) : ByteArray := (upN s).1
noncomputable def nmR (s : ByteArray) : ByteArray := (upN s).2
theorem upN_spec {s : ByteArray} (h : faultR s = 0) : Ev (fun k => impl_parted.f k s) (upN s) ∧ ∃ p : Nat, p < s.size ∧ nmR s = s.extract (p + 1) s.size ∧ upR s = (if p = 0 then (⟨#[47]⟩ : ByteArray) else s.extract 0 p) ∧ Ev (fun k => spec_l1Last.f k s) (p : Int) := by
  unfold nmR upR upN
  rw [dif_pos h]
  exact (up_ex s h).choose_spec
theorem parted_is {s : ByteArray} (h : faultR s = 0) : Ev (fun k => impl_parted.f k s) (upR s, nmR s) := (upN_spec h).1
theorem parent_is {s : ByteArray} (h : faultR s = 0) : Ev (fun k => spec_l1Parent.f k s) (upR s) := by
  obtain ⟨_, p, h6, _, h8, h9⟩ := upN_spec h
  unfold spec_l1Parent.f
  refine ev_call h9 (ev_is fun k => ?_)
  rw [h8]
  by_cases c : p = 0
  · rw [if_pos (by omega), if_pos c]
  · rw [if_neg (by omega), if_pos (by omega), if_pos (by omega), if_neg c, Int.toNat_natCast]
theorem upR_size {s : ByteArray} (h : faultR s = 0) : (upR s).size ≤ 24 ∧ (nmR s).size ≤ 24 := by
  obtain ⟨_, p, h6, h7, h8, _⟩ := upN_spec h
  have := (path_mark h).1
  have sz : ∀ a b : Nat, b ≤ 24 → (s.extract a b).size ≤ 24 := fun a b hb => by
    rw [size_list, ext_list, List.length_take, List.length_drop]
    omega
  rw [h7, h8]
  refine ⟨?_, sz _ _ this⟩
  by_cases c : p = 0
  · rw [if_pos c]; decide
  · rw [if_neg c]; exact sz _ _ (by omega)
theorem top_fault : faultR (⟨#[47]⟩ : ByteArray) = 0 := by unfold faultR; decide
theorem upR_top (s : ByteArray) (hs : s.data.toList = [47]) : upR s = (⟨#[47]⟩ : ByteArray) := by
  have h : faultR s = 0 := by unfold faultR; rw [if_neg (by rw [size_list, hs]; decide), if_pos hs]
  obtain ⟨_, p, h6, _, h8, _⟩ := upN_spec h
  rw [size_list, hs] at h6
  rw [h8, if_pos (by simpa using h6)]

abbrev ZZ := S47
def pk (z : ZZ) : List UInt8 := z.f0.data.toList
def zIn (z : ZZ) : Bool := decide (0 ≤ z.f1 ∧ z.f1 ≤ 9999) && (decide (0 ≤ z.f2 ∧ z.f2 ≤ 999) && (decide (0 ≤ z.f3 ∧ z.f3 ≤ 9) && decide (0 ≤ z.f4 ∧ z.f4 ≤ 100)))
/-- What is wrong with one node. -/
def zOwn (z : ZZ) : Int := if faultR z.f0 = 0 then (if zIn z = true then 0 else 3) else faultR z.f0
def zOne (prev : Option (List UInt8)) (z : ZZ) : Int := if zOwn z = 0 then (match prev with
  | some p => if p < pk z then 0 else 1
  | none => 0) else zOwn z
def zFrom : Option (List UInt8) → List ZZ → Int
  | _, [] => 0
  | prev, z :: r => if zOne prev z = 0 then zFrom (some (pk z)) r else zOne prev z
theorem zFrom_cons {prev : Option (List UInt8)} {z : ZZ} {r : List ZZ} : zFrom prev (z :: r) = if zOne prev z = 0 then zFrom (some (pk z)) r else zOne prev z := rfl
theorem zOwn_ok {z : ZZ} (h : zOwn z = 0) : faultR z.f0 = 0 ∧ zIn z = true := by
  unfold zOwn at h
  by_cases h1 : faultR z.f0 = 0
  · rw [if_pos h1] at h
    by_cases h2 : zIn z = true
    · exact ⟨h1, h2⟩
    · rw [if_neg h2] at h; cases h
  · rw [if_neg h1] at h; exact absurd h h1
theorem zFrom_ok : ∀ (l : List ZZ) (prev : Option (List UInt8)), zFrom prev l = 0 → (∀ z ∈ l, zOwn z = 0) ∧ Rises pk l ∧ ∀ p, prev = some p → ∀ z ∈ l, p < pk z
  | [], _, _ => ⟨by simp, List.Pairwise.nil, by simp⟩
  | z :: r, prev, h => by
    rw [zFrom_cons] at h
    by_cases h1 : zOne prev z = 0
    · rw [if_pos h1] at h
      obtain ⟨g1, g2, g3⟩ := zFrom_ok r (some (pk z)) h
      have hg : zOwn z = 0 := by
        unfold zOne at h1
        by_cases c : zOwn z = 0
        · exact c
        · rw [if_neg c] at h1; exact h1
      have hp : ∀ p, prev = some p → p < pk z := by
        intro p hp
        subst hp
        unfold zOne at h1
        rw [if_pos hg] at h1
        by_cases c : p < pk z
        · exact c
        · simp [c] at h1
      refine ⟨?_, List.pairwise_cons.2 ⟨fun y hy => g3 _ rfl y hy, g2⟩, ?_⟩
      · intro x hx
        rcases List.mem_cons.1 hx with rfl | hx
        · exact hg
        · exact g1 x hx
      · intro p he x hx
        rcases List.mem_cons.1 hx with rfl | hx
        · exact hp p he
        · exact lt_tr (hp p he) (g3 _ rfl x hx)
    · rw [if_neg h1] at h; exact absurd h h1
noncomputable def upK (z : ZZ) : List UInt8 := (upR z.f0).data.toList
noncomputable def upHere (l : List ZZ) (z : ZZ) : Bool := hereK pk l (upK z)
noncomputable def upOwn (l : List ZZ) (z : ZZ) : Bool := !decide ((rd_T47 l (posK pk l (upK z) : Int)).f3 = 0)
/-- What is wrong with a tree. -/
noncomputable def treeR (l : List ZZ) : Int :=
  if l.length > 20 then 2 else if zFrom none l = 0 then
    (if hereK pk l [47] = true then (if l.all (upHere l) = true then (if l.any (upOwn l) = true then 1 else 0) else 4) else 4)
  else zFrom none l
/-- A tree that has no fault. -/
structure RightT (l : List ZZ) : Prop where
  few : l.length ≤ 20
  good : ∀ z ∈ l, zOwn z = 0
  rise : Rises pk l
  top : hereK pk l [47] = true
  ups : ∀ z ∈ l, upHere l z = true
  free : ∀ z ∈ l, upOwn l z = false
theorem right_of {l : List ZZ} (h : treeR l = 0) : RightT l := by
  unfold treeR at h
  by_cases h1 : l.length > 20
  · rw [if_pos h1] at h; cases h
  · rw [if_neg h1] at h
    by_cases h2 : zFrom none l = 0
    · rw [if_pos h2] at h
      obtain ⟨g1, g2, _⟩ := zFrom_ok l none h2
      by_cases h3 : hereK pk l [47] = true
      · rw [if_pos h3] at h
        by_cases h4 : l.all (upHere l) = true
        · rw [if_pos h4] at h
          by_cases h5 : l.any (upOwn l) = true
          · rw [if_pos h5] at h; cases h
          · refine ⟨by omega, g1, g2, h3, List.all_eq_true.1 h4, fun z hz => ?_⟩
            cases c : upOwn l z with
            | false => rfl
            | true => exact absurd (List.any_eq_true.2 ⟨z, hz, c⟩) h5
        · rw [if_neg h4] at h; cases h
      · rw [if_neg h3] at h; cases h
    · rw [if_neg h2] at h; exact absurd h h2
theorem RightT.zero {l : List ZZ} (h : RightT l) (hz : zFrom none l = 0) : treeR l = 0 := by
  unfold treeR
  rw [if_neg (by have := h.few; omega), if_pos hz, if_pos h.top, if_pos (List.all_eq_true.2 h.ups), if_neg (fun c => by
    obtain ⟨z, hz, c⟩ := List.any_eq_true.1 c
    rw [h.free z hz] at c
    cases c)]
theorem top_first {l : List ZZ} (hg : ∀ z ∈ l, zOwn z = 0) (hr : Rises pk l) (h : hereK pk l [47] = true) : posK pk l [47] = 0 := by
  have hp := hereK_lt h
  have h0 : 0 < l.length := by omega
  have hn : ¬ pk l[0] < [47] := by
    obtain ⟨_, ⟨t, ht⟩, _⟩ := path_mark (zOwn_ok (hg _ (List.getElem_mem h0))).1
    unfold pk
    rw [ht]
    intro c
    rcases List.cons_lt_cons_iff.1 c with c | ⟨_, c⟩
    · exact UInt8.lt_irrefl _ c
    · exact absurd c (by simp)
  have := (not_congr (posK_iff hr [47] 0 h0)).1 hn
  omega
end Go.Proofs.YtdemicncljgccaaDoor.Pure

/- What is wrong with a tree: by the program (a search by halves) and by the reference (one by one) the same, for every list of nodes. -/
namespace Go.Proofs.YtdemicncljgccaaDoor.Pure
open Go.RowKit Go.Proofs.YtdemicncljgccaaDoor.Qa Go.Proofs.YtdemicncljgccaaDoorW.PrintWords Go.Proofs.YtdemicncljgccaaDoorW.PrintLast Go.Proofs.YtdemicncljgccaaDoor.Aid

theorem bl_pk (a b : ByteArray) : (Op.bytesLess a.toList b.toList = true) = (a.data.toList < b.data.toList) := by
  rw [tl, tl, bl_lt]
  exact decide_eq_true_eq
theorem order_is (z : ZZ) (q : ByteArray) : impl_pathOrder.f z.f0 z.f1 z.f2 z.f3 z.f4 q = some (if pk z < q.data.toList then -1 else if pk z = q.data.toList then 0 else 1) := by
  unfold impl_pathOrder.f strings_Compare.f
  rw [cmp_is]
  rfl
/-- The search by halves. -/
theorem find_l0 {l : List ZZ} (h : Rises pk l) (hl : l.length ≤ 1048576000) (q : ByteArray) (d : Nat) : ∀ (lo hi : Nat), hi - lo ≤ d → lo ≤ posK pk l q.data.toList → posK pk l q.data.toList ≤ hi → hi ≤ l.length → Ev (fun k => slices_BinarySearchFunc_impl_Znode_impl_Znode_string.l0 k l q (l.length : Int) (lo : Int) (hi : Int)) ((posK pk l q.data.toList : Int), hereK pk l q.data.toList) := by
  induction d with
  | zero =>
    intro lo hi hd h1 h2 h3
    have e : lo = posK pk l q.data.toList := by omega
    subst e
    refine ev_done fun k => ?_
    simp only [slices_BinarySearchFunc_impl_Znode_impl_Znode_string.l0]
    rw [if_neg (by omega)]
    by_cases hp : posK pk l q.data.toList < l.length
    · rw [if_pos (by omega), if_pos (by omega), if_pos (by omega), rd_T47_at hp, order_is, Option.bind_some]
      have hn : ¬ pk (l[posK pk l q.data.toList]) < q.data.toList := fun c => by have := (posK_iff h q.data.toList _ hp).1 c; omega
      have e : hereK pk l q.data.toList = decide (pk (l[posK pk l q.data.toList]) = q.data.toList) := by unfold hereK; rw [List.getElem?_eq_getElem hp]
      rw [e, if_neg hn]
      by_cases c : pk (l[posK pk l q.data.toList]) = q.data.toList
      · rw [if_pos c, decide_eq_true c]; rfl
      · rw [if_neg c, decide_eq_false c]; rfl
    · rw [if_neg (by omega)]
      have e : hereK pk l q.data.toList = false := by unfold hereK; rw [List.getElem?_eq_none (by omega)]
      rw [e]
  | succ d ih =>
    intro lo hi hd h1 h2 h3
    by_cases hlt : lo < hi
    · have hm : (lo + hi) / 2 < l.length := by omega
      have hiff := posK_iff h q.data.toList _ hm
      have hmid := mid_eq (a := lo) (b := hi) (by omega)
      by_cases c : pk (l[(lo + hi) / 2]) < q.data.toList
      · refine ev_step (fun k => slices_BinarySearchFunc_impl_Znode_impl_Znode_string.l0 k l q (l.length : Int) (((lo + hi) / 2 + 1 : Nat) : Int) (hi : Int)) (fun k => ?_) (ih _ _ (by omega) (by have := hiff.1 c; omega) h2 h3)
        simp only [slices_BinarySearchFunc_impl_Znode_impl_Znode_string.l0]
        rw [hmid, if_pos (by omega), if_pos (by omega), if_pos (by omega), rd_T47_at hm, order_is, if_pos c, Option.bind_some, if_pos (by omega), wrap_up hm (by omega)]
      · refine ev_step (fun k => slices_BinarySearchFunc_impl_Znode_impl_Znode_string.l0 k l q (l.length : Int) (lo : Int) (((lo + hi) / 2 : Nat) : Int)) (fun k => ?_) (ih _ _ (by omega) h1 (by have := (not_congr hiff).1 c; omega) (by omega))
        simp only [slices_BinarySearchFunc_impl_Znode_impl_Znode_string.l0]
        rw [hmid, if_pos (by omega), if_pos (by omega), if_pos (by omega), rd_T47_at hm, order_is, if_neg c, Option.bind_some, if_neg (by split <;> omega)]
    · exact (fun e : hi - lo ≤ d => ih lo hi e h1 h2 h3) (by omega)
theorem find_is {l : List ZZ} (h : Rises pk l) (hl : l.length ≤ 1048576000) (q : ByteArray) : Ev (fun k => impl_find.f k l q) ((posK pk l q.data.toList : Int), hereK pk l q.data.toList) := by
  unfold impl_find.f slices_BinarySearchFunc_impl_Znode_impl_Znode_string.f
  exact ev_call (find_l0 h hl q l.length 0 l.length (by omega) (by omega) (posK_le pk l _) (Nat.le_refl _)) (Ev.now _)
/-- One by one. -/
theorem at_l0 {l : List ZZ} (h : Rises pk l) (hl : l.length ≤ 1048576000) (q : ByteArray) (d : Nat) : ∀ (i : Nat), i + d = l.length → (hereK pk l q.data.toList = true → i ≤ posK pk l q.data.toList) → Ev (fun k => spec_l2At.l0 k l q (i : Int)) (if hereK pk l q.data.toList then (posK pk l q.data.toList : Int) else -1) := by
  induction d with
  | zero =>
    intro i hd hi
    have e : hereK pk l q.data.toList = false := by
      cases c : hereK pk l q.data.toList with
      | false => rfl
      | true => have := hereK_lt c; have := hi c; omega
    rw [e]
    exact ev_done fun k => by simp only [spec_l2At.l0]; rw [if_neg (by omega)]; rfl
  | succ d ih =>
    intro i hd hi
    have hil : i < l.length := by omega
    by_cases c : pk l[i] = q.data.toList
    · obtain ⟨e1, e2⟩ := hereK_at h i hil
      rw [c] at e1 e2
      rw [e2, e1]
      exact ev_done fun k => by simp only [spec_l2At.l0]; rw [if_pos (by omega), if_pos (by omega), rd_T47_at hil, tl, tl, if_pos (show (l[i]).f0.data.toList = q.data.toList from c)]; rfl
    · refine ev_step (fun k => spec_l2At.l0 k l q ((i + 1 : Nat) : Int)) (fun k => ?_) (ih (i + 1) (by omega) (fun hh => ?_))
      · simp only [spec_l2At.l0]; rw [if_pos (by omega), if_pos (by omega), rd_T47_at hil, tl, tl, if_neg (show ¬ (l[i]).f0.data.toList = q.data.toList from c), wrap_up hil (by omega)]
      · have h1 := hi hh
        have h2 := hereK_eq hh
        have : i ≠ posK pk l q.data.toList := fun e => c (by
          have : ∀ (j : Nat) (hj : j < l.length), i = j → pk l[j] = q.data.toList → pk l[i] = q.data.toList := fun j hj e => by subst e; exact id
          exact this _ (hereK_lt hh) e h2)
        omega
theorem at_is {l : List ZZ} (h : Rises pk l) (hl : l.length ≤ 1048576000) (q : ByteArray) : Ev (fun k => spec_l2At.f k l q) (if hereK pk l q.data.toList then (posK pk l q.data.toList : Int) else -1) := at_l0 h hl q l.length 0 (by omega) (fun _ => Nat.zero_le _)

/-- One node, by the program. -/
theorem nodeFault_is (z : ZZ) : Ev (fun k => impl_nodeFault.f k z.f0 z.f1 z.f2 z.f3 z.f4) (zOwn z) := by
  unfold impl_nodeFault.f zOwn
  refine ev_call (fault_impl z.f0) (ev_is fun k => ?_)
  by_cases h : faultR z.f0 = 0
  · rw [if_pos h, if_pos h]
    unfold impl_isData.f impl_isOwner.f zIn
    rw [impl_within_is, impl_within_is, impl_within_is, impl_within_is]
    by_cases c1 : 0 ≤ z.f1 ∧ z.f1 ≤ 9999 <;> by_cases c2 : 0 ≤ z.f2 ∧ z.f2 ≤ 999 <;> by_cases c3 : 0 ≤ z.f3 ∧ z.f3 ≤ 9 <;> by_cases c4 : 0 ≤ z.f4 ∧ z.f4 ≤ 100 <;> simp [c1, c2, c3, c4]
  · rw [if_neg h, if_neg h]
def prevK (l : List ZZ) : Nat → Option (List UInt8)
  | 0 => none
  | i + 1 => some (pk (rd_T47 l (i : Int)))
theorem wrap_dn {i : Nat} (h : i < 4611686018427387904) : wrap64 (((i + 1 : Nat) : Int) - 1) = (i : Int) := by
  rw [wrap_id (by omega) (by omega)]
  omega
/-- What is left when the nodes one by one are right. -/
theorem impl_l0 (l : List ZZ) (hl : l.length ≤ 20) (r : Int) (hr : zFrom none l = 0 → Ev (fun k => impl_TreeFault.l0 k l l (l.length : Int) (l.length : Int)) r) (d : Nat) : ∀ (i : Nat), i + d = l.length → (zFrom none l = zFrom (prevK l i) (l.drop i)) → Ev (fun k => impl_TreeFault.l0 k l l (l.length : Int) (i : Int)) (if zFrom none l = 0 then r else zFrom none l) := by
  induction d with
  | zero =>
    intro i h he
    have e : i = l.length := by omega
    subst e
    rw [List.drop_length] at he
    have h0 : zFrom none l = 0 := he
    rw [if_pos h0]
    exact hr h0
  | succ d ih =>
    intro i h he
    have hi : i < l.length := by omega
    have hrd := rd_T47_at hi
    rw [drop_at hi, zFrom_cons] at he
    have hp : prevK l (i + 1) = some (pk l[i]) := by rw [prevK, hrd]
    refine ev_step (fun k => (impl_nodeFault.f k (l[i]).f0 (l[i]).f1 (l[i]).f2 (l[i]).f3 (l[i]).f4).bind fun t103 => (if t103 = 0 then (if (i : Int) > 0 then (if 0 ≤ (wrap64 ((i : Int) - 1)) then (if (wrap64 ((i : Int) - 1)) < (l.length : Int) then (if ((Op.bytesLess (((rd_T47 l (wrap64 ((i : Int) - 1))).f0).toList) (((l[i]).f0).toList)) = true) then (impl_TreeFault.l0 k l l (l.length : Int) ((i + 1 : Nat) : Int)) else (some 1)) else (none)) else (none)) else (impl_TreeFault.l0 k l l (l.length : Int) ((i + 1 : Nat) : Int))) else (some t103))) (fun k => ?_) (ev_call (nodeFault_is l[i]) ?_)
    · simp only [impl_TreeFault.l0]
      rw [if_pos (by omega), if_pos (by omega), if_pos (by omega), hrd, wrap_up hi (by omega)]
    · by_cases ho : zOwn l[i] = 0
      · refine ev_cong (fun k => if_pos ho) ?_
        cases i with
        | zero =>
          have e1 : zOne (prevK l 0) l[0] = 0 := by unfold zOne; rw [if_pos ho]; rfl
          rw [if_pos e1] at he
          rw [← hp] at he
          exact ev_cong (fun k => if_neg (by omega)) (ih 1 (by omega) he)
        | succ j =>
          have hj : j < l.length := by omega
          have wd := wrap_dn (i := j) (by omega)
          refine ev_cong (fun k => (if_pos (by omega)).trans ?_) (f := fun k => if ((Op.bytesLess (((rd_T47 l (j : Int)).f0).toList) (((l[j + 1]).f0).toList)) = true) then (impl_TreeFault.l0 k l l (l.length : Int) ((j + 1 + 1 : Nat) : Int)) else (some 1)) ?_
          · rw [wd, if_pos (by omega), if_pos (by omega)]
          · by_cases c : pk (rd_T47 l (j : Int)) < pk l[j + 1]
            · have e1 : zOne (prevK l (j + 1)) l[j + 1] = 0 := by unfold zOne; rw [if_pos ho]; exact if_pos c
              rw [if_pos e1, ← hp] at he
              refine ev_cong (fun k => if_pos (by rw [bl_pk]; exact c)) (ih (j + 1 + 1) (by omega) he)
            · have e1 : zOne (prevK l (j + 1)) l[j + 1] = 1 := by unfold zOne; rw [if_pos ho]; exact if_neg c
              rw [e1, if_neg (by omega)] at he
              rw [he, if_neg (by omega)]
              exact ev_is fun k => if_neg (by rw [bl_pk]; exact c)
      · have e1 : zOne (prevK l i) l[i] = zOwn l[i] := by unfold zOne; rw [if_neg ho]
        rw [e1, if_neg ho] at he
        rw [he, if_neg ho]
        exact ev_is fun k => if_neg ho
theorem spec_l0 (l : List ZZ) (hl : l.length ≤ 20) (r : Int) (hr : zFrom none l = 0 → Ev (fun k => spec_l2Fault.l0 k l (l.length : Int)) r) (d : Nat) : ∀ (i : Nat), i + d = l.length → (zFrom none l = zFrom (prevK l i) (l.drop i)) → Ev (fun k => spec_l2Fault.l0 k l (i : Int)) (if zFrom none l = 0 then r else zFrom none l) := by
  induction d with
  | zero =>
    intro i h he
    have e : i = l.length := by omega
    subst e
    rw [List.drop_length] at he
    have h0 : zFrom none l = 0 := he
    rw [if_pos h0]
    exact hr h0
  | succ d ih =>
    intro i h he
    have hi : i < l.length := by omega
    have hrd := rd_T47_at hi
    rw [drop_at hi, zFrom_cons] at he
    have hp : prevK l (i + 1) = some (pk l[i]) := by rw [prevK, hrd]
    refine ev_step (fun k => (spec_l1Fault.f k (l[i]).f0).bind fun t103 => (if t103 = 0 then spec_l2Fault.j1 k l (i : Int) (!zIn l[i]) else (some t103))) (fun k => ?_) (ev_call (fault_spec (l[i]).f0) ?_)
    · simp only [spec_l2Fault.l0]
      rw [if_pos (by omega), if_pos (by omega), hrd]
      refine congrArg (fun z => Option.bind _ z) (funext fun t => ?_)
      unfold spec_l2Data.f spec_l2Owner.f zIn
      rw [spec_l1In_is, spec_l1In_is, spec_l1In_is, spec_l1In_is]
      by_cases c0 : t = 0
      · rw [if_pos c0, if_pos c0]
        by_cases c1 : 0 ≤ (l[i]).f1 ∧ (l[i]).f1 ≤ 9999 <;> by_cases c2 : 0 ≤ (l[i]).f2 ∧ (l[i]).f2 ≤ 999 <;> by_cases c3 : 0 ≤ (l[i]).f3 ∧ (l[i]).f3 ≤ 9 <;> by_cases c4 : 0 ≤ (l[i]).f4 ∧ (l[i]).f4 ≤ 100 <;> simp [c1, c2, c3, c4]
      · rw [if_neg c0, if_neg c0]
    · by_cases hf : faultR (l[i]).f0 = 0
      · refine ev_cong (fun k => if_pos hf) ?_
        cases hz : zIn l[i] with
        | false =>
          have ho : zOwn l[i] = 3 := by unfold zOwn; rw [if_pos hf, if_neg (by simp [hz])]
          have e1 : zOne (prevK l i) l[i] = 3 := by unfold zOne; rw [if_neg (by omega), ho]
          rw [e1, if_neg (by omega)] at he
          rw [he, if_neg (by omega)]
          exact ev_done fun k => by simp only [spec_l2Fault.j1]; exact if_pos rfl
        | true =>
          have ho : zOwn l[i] = 0 := by unfold zOwn; rw [if_pos hf, if_pos hz]
          cases i with
          | zero =>
            have e1 : zOne (prevK l 0) l[0] = 0 := by unfold zOne; rw [if_pos ho]; rfl
            rw [if_pos e1, ← hp] at he
            refine ev_step (fun k => spec_l2Fault.l0 k l ((0 + 1 : Nat) : Int)) (fun k => ?_) (ih 1 (by omega) he)
            simp only [spec_l2Fault.j1]; rw [if_neg (by simp), if_neg (by omega), wrap_up hi (by omega)]
          | succ j =>
            have hj : j < l.length := by omega
            have wd := wrap_dn (i := j) (by omega)
            by_cases c : pk (rd_T47 l (j : Int)) < pk l[j + 1]
            · have e1 : zOne (prevK l (j + 1)) l[j + 1] = 0 := by unfold zOne; rw [if_pos ho]; exact if_pos c
              rw [if_pos e1, ← hp] at he
              refine ev_step (fun k => spec_l2Fault.l0 k l ((j + 1 + 1 : Nat) : Int)) (fun k => ?_) (ih (j + 1 + 1) (by omega) he)
              simp only [spec_l2Fault.j1]; rw [if_neg (by simp), if_pos (by omega), if_pos (by omega), if_pos (by omega), wd, if_pos (by omega), if_pos (by omega), if_pos (by rw [hrd, bl_pk]; exact c), wrap_up hi (by omega)]
            · have e1 : zOne (prevK l (j + 1)) l[j + 1] = 1 := by unfold zOne; rw [if_pos ho]; exact if_neg c
              rw [e1, if_neg (by omega)] at he
              rw [he, if_neg (by omega)]
              exact ev_done fun k => by simp only [spec_l2Fault.j1]; rw [if_neg (by simp), if_pos (by omega), if_pos (by omega), if_pos (by omega), wd, if_pos (by omega), if_pos (by omega), if_neg (by rw [hrd, bl_pk]; exact c)]
      · have ho : zOwn l[i] = faultR (l[i]).f0 := by unfold zOwn; rw [if_neg hf]
        have e1 : zOne (prevK l i) l[i] = zOwn l[i] := by unfold zOne; rw [if_neg (by rw [ho]; exact hf)]
        rw [e1, ho, if_neg hf] at he
        rw [he, if_neg hf]
        exact ev_is fun k => if_neg hf
/-- The parents, by the reference: they are there .. -/
theorem spec_l1_ (l : List ZZ) (hg : ∀ z ∈ l, zOwn z = 0) (hR : Rises pk l) (hl : l.length ≤ 20) (r : Int) (hr : l.all (upHere l) = true → Ev (fun k => spec_l2Fault.l2 k l 0) r) (d : Nat) : ∀ (i : Nat), i + d = l.length → (l.all (upHere l) = (l.drop i).all (upHere l)) → Ev (fun k => spec_l2Fault.l1 k l (i : Int)) (if l.all (upHere l) = true then r else 4) := by
  induction d with
  | zero =>
    intro i h he
    rw [drop_end (by omega)] at he
    have he' : l.all (upHere l) = true := he
    rw [if_pos he']
    refine ev_step _ (fun k => ?_) (hr he')
    simp only [spec_l2Fault.l1]; rw [if_neg (by omega)]
  | succ d ih =>
    intro i h he
    have hi : i < l.length := by omega
    have hrd := rd_T47_at hi
    rw [drop_at hi, List.all_cons] at he
    have hgi := zOwn_ok (hg _ (List.getElem_mem hi))
    refine ev_step (fun k => (spec_l1Parent.f k (l[i]).f0).bind fun t116 => ((spec_l2At.f k l t116).bind fun t117 => (if t117 < 0 then (some 4) else (spec_l2Fault.l1 k l ((i + 1 : Nat) : Int))))) (fun k => ?_) (ev_call (parent_is hgi.1) (ev_call (at_is hR (by omega) (upR (l[i]).f0)) ?_))
    · simp only [spec_l2Fault.l1]; rw [if_pos (by omega), if_pos (by omega), hrd, wrap_up hi (by omega)]
    · have e : hereK pk l (upR (l[i]).f0).data.toList = upHere l l[i] := rfl
      rw [e]
      cases c : upHere l l[i] with
      | true =>
        rw [c, Bool.true_and] at he
        exact ev_cong (fun k => if_neg (by rw [if_pos rfl]; omega)) (ih (i + 1) (by omega) he)
      | false =>
        rw [c, Bool.false_and] at he
        rw [he, if_neg (by simp)]
        exact ev_is fun k => if_pos (by simp)
/-- .. and nobody's. -/
theorem spec_l2_ (l : List ZZ) (hg : ∀ z ∈ l, zOwn z = 0) (hR : Rises pk l) (hl : l.length ≤ 20) (hA : l.all (upHere l) = true) (d : Nat) : ∀ (i : Nat), i + d = l.length → (l.any (upOwn l) = (l.drop i).any (upOwn l)) → Ev (fun k => spec_l2Fault.l2 k l (i : Int)) (if l.any (upOwn l) = true then 1 else 0) := by
  induction d with
  | zero =>
    intro i h he
    rw [drop_end (by omega)] at he
    have he' : l.any (upOwn l) = false := he
    rw [he', if_neg (by simp)]
    exact ev_done fun k => by simp only [spec_l2Fault.l2]; rw [if_neg (by omega)]
  | succ d ih =>
    intro i h he
    have hi : i < l.length := by omega
    have hrd := rd_T47_at hi
    rw [drop_at hi, List.any_cons] at he
    have hgi := zOwn_ok (hg _ (List.getElem_mem hi))
    have hh : hereK pk l (upR (l[i]).f0).data.toList = true := List.all_eq_true.1 hA _ (List.getElem_mem hi)
    have hp := hereK_lt hh
    have ho : upOwn l l[i] = !decide ((rd_T47 l (posK pk l (upR (l[i]).f0).data.toList : Int)).f3 = 0) := rfl
    refine ev_step (fun k => (spec_l1Parent.f k (l[i]).f0).bind fun t119 => ((spec_l2At.f k l t119).bind fun t120 => (if 0 ≤ t120 then (if t120 < (l.length : Int) then (if ((rd_T47 l t120).f3) = 0 then (spec_l2Fault.l2 k l ((i + 1 : Nat) : Int)) else (some 1)) else (none)) else (none)))) (fun k => ?_) (ev_call (parent_is hgi.1) (ev_call (at_is hR (by omega) (upR (l[i]).f0)) ?_))
    · simp only [spec_l2Fault.l2]; rw [if_pos (by omega), if_pos (by omega), hrd, wrap_up hi (by omega)]
    · rw [hh]
      generalize hP : posK pk l (upR (l[i]).f0).data.toList = P at hp ho
      refine ev_cong (f := fun k => (if ((rd_T47 l (P : Int)).f3) = 0 then (spec_l2Fault.l2 k l ((i + 1 : Nat) : Int)) else (some 1))) (fun k => ?_) ?_
      · rw [if_pos rfl, if_pos (by omega), if_pos (by omega)]
      · by_cases c : (rd_T47 l (P : Int)).f3 = 0
        · have : upOwn l l[i] = false := by rw [ho, decide_eq_true c]; rfl
          rw [this, Bool.false_or] at he
          exact ev_cong (fun k => if_pos c) (ih (i + 1) (by omega) he)
        · have : upOwn l l[i] = true := by rw [ho, decide_eq_false c]; rfl
          rw [this, Bool.true_or] at he
          rw [he, if_pos rfl]
          exact ev_is fun k => if_neg c
theorem treeR_spec (l : List ZZ) : Ev (fun k => spec_l2Fault.f k l) (treeR l) := by
  unfold spec_l2Fault.f treeR
  by_cases h : l.length > 20
  · rw [if_pos h]
    exact ev_is fun k => if_pos (by omega)
  · rw [if_neg h]
    refine ev_cong (fun k => if_neg (by omega)) (spec_l0 l (by omega) _ (fun hz => ?_) l.length 0 (by omega) rfl)
    obtain ⟨hg, hR, _⟩ := zFrom_ok l none hz
    refine ev_step (fun k => (spec_l2At.f k l (⟨#[47]⟩ : ByteArray)).bind fun t114 => (if t114 < 0 then (some 4) else (spec_l2Fault.l1 k l 0))) (fun k => ?_) (ev_call (at_is hR (by omega) (⟨#[47]⟩ : ByteArray)) ?_)
    · simp only [spec_l2Fault.l0]; rw [if_neg (by omega)]
    · have e : (⟨#[47]⟩ : ByteArray).data.toList = [47] := rfl
      rw [e]
      cases c : hereK pk l [47] with
      | false =>
        rw [if_neg (by simp)]
        exact ev_is fun k => if_pos (by simp)
      | true =>
        rw [if_pos rfl]
        refine ev_cong (fun k => if_neg (by omega)) (spec_l1_ l hg hR (by omega) _ (fun hA => ?_) l.length 0 (by omega) rfl)
        exact spec_l2_ l hg hR (by omega) hA l.length 0 (by omega) rfl
/-- The parents, by the program: all but the first node's. -/
theorem impl_l1_ (l m : List ZZ) (hm : ∀ z ∈ m, zOwn z = 0) (hR : Rises pk l) (hl : l.length ≤ 20) (hml : m.length ≤ 20) (d : Nat) : ∀ (i : Nat) (b : Bool), i + d = m.length → Ev (fun k => impl_TreeFault.l1 k l b m (m.length : Int) (i : Int)) (if (m.drop i).all (upHere l) = true then (if (b || (m.drop i).any (upOwn l)) = true then 1 else 0) else 4) := by
  induction d with
  | zero =>
    intro i b h
    rw [drop_end (by omega)]
    refine ev_done fun k => ?_
    simp only [impl_TreeFault.l1]
    rw [if_neg (by omega), List.all_nil, if_pos rfl, List.any_nil, Bool.or_false]
    cases b <;> rfl
  | succ d ih =>
    intro i b h
    have hi : i < m.length := by omega
    have hrd := rd_T47_at hi
    have hgi := zOwn_ok (hm _ (List.getElem_mem hi))
    rw [drop_at hi, List.all_cons, List.any_cons]
    refine ev_step (fun k => (impl_parted.f k (m[i]).f0).bind fun bt114 => ((impl_find.f k l bt114.1).bind fun bt116 => (if bt116.2 = true then (if b = true then (impl_TreeFault.l1 k l true m (m.length : Int) ((i + 1 : Nat) : Int)) else (if 0 ≤ bt116.1 then (if bt116.1 < (l.length : Int) then (impl_TreeFault.l1 k l (((rd_T47 l bt116.1).f3) != 0) m (m.length : Int) ((i + 1 : Nat) : Int)) else (none)) else (none))) else (some 4)))) (fun k => ?_) (ev_call (parted_is hgi.1) (ev_call (find_is hR (by omega) (upR (m[i]).f0)) ?_))
    · simp only [impl_TreeFault.l1]; rw [if_pos (by omega), if_pos (by omega), if_pos (by omega), hrd, wrap_up hi (by omega)]
    · have e : hereK pk l (upR (m[i]).f0).data.toList = upHere l m[i] := rfl
      have ho : upOwn l m[i] = !decide ((rd_T47 l (posK pk l (upR (m[i]).f0).data.toList : Int)).f3 = 0) := rfl
      have hp : upHere l m[i] = true → posK pk l (upR (m[i]).f0).data.toList < l.length := fun c => hereK_lt c
      generalize hP : posK pk l (upR (m[i]).f0).data.toList = P at ho hp
      rw [e]
      cases c : upHere l m[i] with
      | false =>
        rw [Bool.false_and, if_neg (by simp)]
        exact ev_is fun k => if_neg (by simp)
      | true =>
        have hp := hp c
        rw [Bool.true_and]
        cases b with
        | true =>
          have IH := ih (i + 1) true (by omega)
          rw [Bool.true_or] at IH ⊢
          exact ev_cong (fun k => (if_pos rfl).trans (if_pos rfl)) IH
        | false =>
          have e2 : (((rd_T47 l (P : Int)).f3) != 0) = upOwn l m[i] := by
            rw [ho]
            by_cases c2 : (rd_T47 l (P : Int)).f3 = 0
            · rw [decide_eq_true c2, c2]; rfl
            · rw [decide_eq_false c2]; exact bne_iff_ne.2 c2
          have IH := ih (i + 1) (upOwn l m[i]) (by omega)
          rw [Bool.false_or]
          refine ev_cong (fun k => ?_) IH
          rw [if_pos rfl, if_neg (by simp), if_pos (by show 0 ≤ (P : Int); omega), if_pos (by show (P : Int) < (l.length : Int); omega)]
          show impl_TreeFault.l1 k l (((rd_T47 l (P : Int)).f3) != 0) m (m.length : Int) ((i + 1 : Nat) : Int) = _
          rw [e2]
theorem treeR_impl (l : List ZZ) : Ev (fun k => impl_TreeFault.f k l) (treeR l) := by
  unfold impl_TreeFault.f treeR
  by_cases h : l.length > 20
  · rw [if_pos h]
    exact ev_is fun k => if_pos (by omega)
  · rw [if_neg h]
    refine ev_cong (fun k => if_neg (by omega)) (impl_l0 l (by omega) _ (fun hz => ?_) l.length 0 (by omega) rfl)
    obtain ⟨hg, hR, _⟩ := zFrom_ok l none hz
    refine ev_step (fun k => (impl_find.f k l (⟨#[47]⟩ : ByteArray)).bind fun bt105 => (if bt105.2 = true then (if 0 < (l.length : Int) then (if 1 ≤ (l.length : Int) then ((some (l.drop 1 : List ZZ)).bind fun y108 => (impl_TreeFault.l1 k l (((rd_T47 l 0).f3) != 0) y108 (y108.length : Int) 0)) else (none)) else (none)) else (some 4))) (fun k => ?_) (ev_call (find_is hR (by omega) (⟨#[47]⟩ : ByteArray)) ?_)
    · simp only [impl_TreeFault.l0]; rw [if_neg (by omega)]
    · have e : (⟨#[47]⟩ : ByteArray).data.toList = [47] := rfl
      rw [e]
      cases c : hereK pk l [47] with
      | false =>
        rw [if_neg (by simp)]
        exact ev_is fun k => if_neg (by simp)
      | true =>
        rw [if_pos rfl]
        have hp := hereK_lt c
        have h0 := top_first hg hR c
        have hlen : 0 < l.length := by omega
        have hk : pk l[0] = [47] := by
          have := hereK_eq c
          have g : ∀ (j : Nat) (hj : j < l.length), j = 0 → pk l[j] = [47] → pk l[0] = [47] := fun j hj e => by subst e; exact id
          exact g _ hp h0 this
        have hsplit : l = l[0] :: l.drop 1 := by
          have := drop_at hlen
          rwa [List.drop_zero] at this
        have hu : upR (l[0]).f0 = (⟨#[47]⟩ : ByteArray) := upR_top _ hk
        have hu0 : upHere l l[0] = true := by unfold upHere upK; rw [hu]; exact c
        have ho0 : upOwn l l[0] = (((rd_T47 l 0).f3) != 0) := by
          unfold upOwn upK
          rw [hu]
          have e3 : (⟨#[47]⟩ : ByteArray).data.toList = [47] := rfl
          rw [e3, h0]
          show (!decide ((rd_T47 l 0).f3 = 0)) = ((rd_T47 l 0).f3 != 0)
          by_cases c2 : (rd_T47 l 0).f3 = 0
          · rw [decide_eq_true c2, c2]; rfl
          · rw [decide_eq_false c2]; exact (bne_iff_ne.2 c2).symm
        have hall : l.all (upHere l) = (l.drop 1).all (upHere l) := by
          have g : ∀ m : List ZZ, m = l[0] :: l.drop 1 → m.all (upHere l) = (l.drop 1).all (upHere l) := fun m hm => by rw [hm, List.all_cons, hu0, Bool.true_and]
          exact g l hsplit
        have hany : l.any (upOwn l) = ((((rd_T47 l 0).f3) != 0) || (l.drop 1).any (upOwn l)) := by
          have g : ∀ m : List ZZ, m = l[0] :: l.drop 1 → m.any (upOwn l) = ((((rd_T47 l 0).f3) != 0) || (l.drop 1).any (upOwn l)) := fun m hm => by rw [hm, List.any_cons, ho0]
          exact g l hsplit
        rw [hall, hany]
        have := impl_l1_ l (l.drop 1) (fun z hz => hg z (List.mem_of_mem_drop hz)) hR (by omega) (by rw [List.length_drop]; omega) (l.drop 1).length 0 (((rd_T47 l 0).f3) != 0) (by omega)
        rw [List.drop_zero] at this
        refine ev_cong (fun k => ?_) this
        rw [if_pos rfl, if_pos (by omega), if_pos (by omega), Option.bind_some]
        rfl
end Go.Proofs.YtdemicncljgccaaDoor.Pure
