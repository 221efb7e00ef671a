import Derived.Test.YtbeghfdlbokhkaaDoorQcx0
namespace Go.Proofs.YtbeghfdlbokhkaaDoor.Qc
open Go.RowKit Go.Proofs.YtbeghfdlbokhkaaDoorW.PrintWords Go.Proofs.YtbeghfdlbokhkaaDoorW.PrintLast Go.Proofs.YtbeghfdlbokhkaaDoorW.PrintMore
attribute [local go_sem] max2_int min2_int max_two min_two max_three min_three max_four min_four
set_option linter.unusedVariables false
set_option linter.unusedSimpArgs false
set_option maxHeartbeats 8000000
set_option maxRecDepth 100000

/-! ### impl_has: function 15 -/
def impl_has.f (a0 : Int) : Option (ByteArray × ByteArray) := if a0 = 1 then (some ((⟨#[111, 112, 101, 110]⟩ : ByteArray), (⟨#[]⟩ : ByteArray))) else (if a0 = 2 then (some ((⟨#[99, 108, 111, 115, 101]⟩ : ByteArray), (⟨#[]⟩ : ByteArray))) else (if a0 = 3 then (some ((⟨#[99, 114, 101, 97, 116, 101]⟩ : ByteArray), (⟨#[112, 100, 115, 111]⟩ : ByteArray))) else (if a0 = 4 then (some ((⟨#[100, 101, 108, 101, 116, 101]⟩ : ByteArray), (⟨#[112, 118]⟩ : ByteArray))) else (if a0 = 5 then (some ((⟨#[115, 101, 116]⟩ : ByteArray), (⟨#[112, 100, 118]⟩ : ByteArray))) else (if a0 = 6 then (some ((⟨#[103, 101, 116]⟩ : ByteArray), (⟨#[112]⟩ : ByteArray))) else (if a0 = 7 then (some ((⟨#[107, 105, 100, 115]⟩ : ByteArray), (⟨#[112]⟩ : ByteArray))) else (if a0 = 8 then (some ((⟨#[99, 104, 101, 99, 107]⟩ : ByteArray), (⟨#[112, 118]⟩ : ByteArray))) else (some ((⟨#[]⟩ : ByteArray), (⟨#[]⟩ : ByteArray))))))))))
theorem impl_has.calls (a0 : Int) (r1 : ByteArray) (r2 : ByteArray) (w : World) (h : impl_has.f a0 = some (r1, r2)) :
  Calls Tryd.prog 15 #[.int .i64 a0] w fun e w' => e = .returned (.tuple #[.string r1, .string r2]) ∧ Drawn0 w w' := by
 have H : (if a0 = 1 then (some ((⟨#[111, 112, 101, 110]⟩ : ByteArray), (⟨#[]⟩ : ByteArray))) else (if a0 = 2 then (some ((⟨#[99, 108, 111, 115, 101]⟩ : ByteArray), (⟨#[]⟩ : ByteArray))) else (if a0 = 3 then (some ((⟨#[99, 114, 101, 97, 116, 101]⟩ : ByteArray), (⟨#[112, 100, 115, 111]⟩ : ByteArray))) else (if a0 = 4 then (some ((⟨#[100, 101, 108, 101, 116, 101]⟩ : ByteArray), (⟨#[112, 118]⟩ : ByteArray))) else (if a0 = 5 then (some ((⟨#[115, 101, 116]⟩ : ByteArray), (⟨#[112, 100, 118]⟩ : ByteArray))) else (if a0 = 6 then (some ((⟨#[103, 101, 116]⟩ : ByteArray), (⟨#[112]⟩ : ByteArray))) else (if a0 = 7 then (some ((⟨#[107, 105, 100, 115]⟩ : ByteArray), (⟨#[112]⟩ : ByteArray))) else (if a0 = 8 then (some ((⟨#[99, 104, 101, 99, 107]⟩ : ByteArray), (⟨#[112, 118]⟩ : ByteArray))) else (some ((⟨#[]⟩ : ByteArray), (⟨#[]⟩ : ByteArray))))))))))) = some (r1, r2) := h
 clear h
 revert H
 refine itE_ (fun c2b0 c2b1 H => ?_) fun c2b0 c2b1 H => ?_
 ·
  simp only [Option.some.injEq, Prod.mk.injEq] at H
  obtain ⟨rfl, rfl⟩ := H
  go_enter Tryd.func15, Tryd.ntmps15
  go_wp2
  go_ret2
  exact ⟨zagbkp, ziajdh⟩
 revert H
 refine itE_ (fun c3b0 c3b1 H => ?_) fun c3b0 c3b1 H => ?_
 ·
  simp only [Option.some.injEq, Prod.mk.injEq] at H
  obtain ⟨rfl, rfl⟩ := H
  go_enter Tryd.func15, Tryd.ntmps15
  go_wp2
  go_ret2
  exact ⟨zagbkp, ziajdh⟩
 revert H
 refine itE_ (fun c4b0 c4b1 H => ?_) fun c4b0 c4b1 H => ?_
 ·
  simp only [Option.some.injEq, Prod.mk.injEq] at H
  obtain ⟨rfl, rfl⟩ := H
  go_enter Tryd.func15, Tryd.ntmps15
  go_wp2
  go_ret2
  exact ⟨zagbkp, ziajdh⟩
 revert H
 refine itE_ (fun c5b0 c5b1 H => ?_) fun c5b0 c5b1 H => ?_
 ·
  simp only [Option.some.injEq, Prod.mk.injEq] at H
  obtain ⟨rfl, rfl⟩ := H
  go_enter Tryd.func15, Tryd.ntmps15
  go_wp2
  go_ret2
  exact ⟨zagbkp, ziajdh⟩
 revert H
 refine itE_ (fun c6b0 c6b1 H => ?_) fun c6b0 c6b1 H => ?_
 ·
  simp only [Option.some.injEq, Prod.mk.injEq] at H
  obtain ⟨rfl, rfl⟩ := H
  go_enter Tryd.func15, Tryd.ntmps15
  go_wp2
  go_ret2
  exact ⟨zagbkp, ziajdh⟩
 revert H
 refine itE_ (fun c7b0 c7b1 H => ?_) fun c7b0 c7b1 H => ?_
 ·
  simp only [Option.some.injEq, Prod.mk.injEq] at H
  obtain ⟨rfl, rfl⟩ := H
  go_enter Tryd.func15, Tryd.ntmps15
  go_wp2
  go_ret2
  exact ⟨zagbkp, ziajdh⟩
 revert H
 refine itE_ (fun c8b0 c8b1 H => ?_) fun c8b0 c8b1 H => ?_
 ·
  simp only [Option.some.injEq, Prod.mk.injEq] at H
  obtain ⟨rfl, rfl⟩ := H
  go_enter Tryd.func15, Tryd.ntmps15
  go_wp2
  go_ret2
  exact ⟨zagbkp, ziajdh⟩
 revert H
 refine itE_ (fun c9b0 c9b1 H => ?_) fun c9b0 c9b1 H => ?_
 ·
  simp only [Option.some.injEq, Prod.mk.injEq] at H
  obtain ⟨rfl, rfl⟩ := H
  go_enter Tryd.func15, Tryd.ntmps15
  go_wp2
  go_ret2
  exact ⟨zagbkp, ziajdh⟩
 simp only [Option.some.injEq, Prod.mk.injEq] at H
 obtain ⟨rfl, rfl⟩ := H
 go_enter Tryd.func15, Tryd.ntmps15
 go_wp2
 go_ret2
 exact ⟨zagbkp, ziajdh⟩

end Go.Proofs.YtbeghfdlbokhkaaDoor.Qc
