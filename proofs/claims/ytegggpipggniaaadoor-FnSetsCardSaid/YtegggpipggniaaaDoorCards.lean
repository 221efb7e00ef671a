/-
  DERIVED. GIVEN WITH THE SEED: THE CARDS: each row of YtegggpipggniaaaDoorRows.lean that lists a variable, with what it lists TIED to the program's text (the seventh form; the later family's looks); each row that meets fmt, with fmt's text TOLD by the authors' own Lean function (tested against real Go, not proved from fmt's source: count such statements apart). THE CARD IS WHAT COUNTS. Prove the row's statement (the work); the ties are given (YtegggpipggniaaaDoorTie.lean); close each card by the builder's one call (the guide's Derived/Test/ToyasCard.lean, 'card_holds'). Laid BY PROGRAM, IN A SANDBOX (cutbox-door.mjs). By AI agents, Wed Nov 11 2026. No macro, syntax, notation, axiom, sorry.
-/
import Derived.Test.YtegggpipggniaaaDoorRows
import GoSem.ClaimSeven
namespace Go.Proofs.YtegggpipggniaaaDoor
namespace Rows

/-- THE TIED CARD OF 'laws.FnSets'. -/
def fnSetsCard : Claim7 := { stood := { row := fnSetsRow, standIns := [], harness := (true, "2b81480798c3f0b7d67b11edbf9be1c3fc7cd79846c4b98bf35eb11722974916"), looks := false }, kinds := [], alts := [], laidByText := true, laidKinds := [.data, .pinned], laidTests := true, laidLooks := .later }
def FnSetsCardSaid : Prop := Claim7.holds Tryd.pinned (.plain (OpenSpec.ofChange fnSetsSpec)) fnSetsCard

/-- THE TIED CARD OF 'laws.FnDeletes'. -/
def fnDeletesCard : Claim7 := { stood := { row := fnDeletesRow, standIns := [], harness := (true, "2b81480798c3f0b7d67b11edbf9be1c3fc7cd79846c4b98bf35eb11722974916"), looks := false }, kinds := [], alts := [], laidByText := true, laidKinds := [.data, .pinned], laidTests := true, laidLooks := .later }
def FnDeletesCardSaid : Prop := Claim7.holds Tryd.pinned (.plain (OpenSpec.ofChange fnDeletesSpec)) fnDeletesCard

/-- THE TIED CARD OF 'laws.FnCreates'. -/
def fnCreatesCard : Claim7 := { stood := { row := fnCreatesRow, standIns := [], harness := (true, "2b81480798c3f0b7d67b11edbf9be1c3fc7cd79846c4b98bf35eb11722974916"), looks := false }, kinds := [], alts := [], laidByText := true, laidKinds := [.data, .pinned], laidTests := true, laidLooks := .later }
def FnCreatesCardSaid : Prop := Claim7.holds Tryd.pinned (.plain (OpenSpec.ofChange fnCreatesSpec)) fnCreatesCard

/-- THE TIED CARD OF 'laws.FnNumbers'. -/
def fnNumbersCard : Claim7 := { stood := { row := fnNumbersRow, standIns := [], harness := (true, "2b81480798c3f0b7d67b11edbf9be1c3fc7cd79846c4b98bf35eb11722974916"), looks := false }, kinds := [], alts := [], laidByText := true, laidKinds := [.data, .pinned], laidTests := true, laidLooks := .later }
def FnNumbersCardSaid : Prop := Claim7.holds Tryd.pinned (.plain (OpenSpec.ofChange fnNumbersSpec)) fnNumbersCard

/-- THE SECOND FORM's CARD OF 'laws.FnSets'. -/
def fnSetsUptoCard : Claim7 := { stood := { row := fnSetsUptoRow, standIns := [], harness := (true, "2b81480798c3f0b7d67b11edbf9be1c3fc7cd79846c4b98bf35eb11722974916"), looks := false }, kinds := [], alts := [], laidByText := true, laidKinds := [.data, .pinned], laidTests := true, laidLooks := .later }
def FnSetsUptoCardSaid : Prop := Claim7.holds Tryd.pinned (.plain (OpenSpec.upto fnSetsSpec)) fnSetsUptoCard

/-- THE SECOND FORM's CARD OF 'laws.FnDeletes'. -/
def fnDeletesUptoCard : Claim7 := { stood := { row := fnDeletesUptoRow, standIns := [], harness := (true, "2b81480798c3f0b7d67b11edbf9be1c3fc7cd79846c4b98bf35eb11722974916"), looks := false }, kinds := [], alts := [], laidByText := true, laidKinds := [.data, .pinned], laidTests := true, laidLooks := .later }
def FnDeletesUptoCardSaid : Prop := Claim7.holds Tryd.pinned (.plain (OpenSpec.upto fnDeletesSpec)) fnDeletesUptoCard

/-- THE SECOND FORM's CARD OF 'laws.FnCreates'. -/
def fnCreatesUptoCard : Claim7 := { stood := { row := fnCreatesUptoRow, standIns := [], harness := (true, "2b81480798c3f0b7d67b11edbf9be1c3fc7cd79846c4b98bf35eb11722974916"), looks := false }, kinds := [], alts := [], laidByText := true, laidKinds := [.data, .pinned], laidTests := true, laidLooks := .later }
def FnCreatesUptoCardSaid : Prop := Claim7.holds Tryd.pinned (.plain (OpenSpec.upto fnCreatesSpec)) fnCreatesUptoCard

/-- THE SECOND FORM's CARD OF 'laws.FnNumbers'. -/
def fnNumbersUptoCard : Claim7 := { stood := { row := fnNumbersUptoRow, standIns := [], harness := (true, "2b81480798c3f0b7d67b11edbf9be1c3fc7cd79846c4b98bf35eb11722974916"), looks := false }, kinds := [], alts := [], laidByText := true, laidKinds := [.data, .pinned], laidTests := true, laidLooks := .later }
def FnNumbersUptoCardSaid : Prop := Claim7.holds Tryd.pinned (.plain (OpenSpec.upto fnNumbersSpec)) fnNumbersUptoCard
end Rows
end Go.Proofs.YtegggpipggniaaaDoor
