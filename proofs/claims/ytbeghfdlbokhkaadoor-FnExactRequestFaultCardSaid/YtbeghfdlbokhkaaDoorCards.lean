/-
  DERIVED. GIVEN WITH THE SEED: THE CARDS: each row of YtbeghfdlbokhkaaDoorRows.lean that lists a variable, with what it lists TIED to the program's text (the seventh form; the later family's looks); each row that meets fmt, with fmt's text TOLD by the authors' own Lean function (tested against real Go, not proved from fmt's source: count such statements apart). THE CARD IS WHAT COUNTS. Prove the row's statement (the work); the ties are given (YtbeghfdlbokhkaaDoorTie.lean); close each card by the builder's one call (the guide's Derived/Test/ToyasCard.lean, 'card_holds'). Laid BY PROGRAM, IN A SANDBOX (cutbox-door.mjs). By AI agents, Wed Nov 11 2026. No macro, syntax, notation, axiom, sorry.
-/
import Derived.Test.YtbeghfdlbokhkaaDoorRows
import GoSem.ClaimSeven
namespace Go.Proofs.YtbeghfdlbokhkaaDoor
namespace Rows

/-- THE TIED CARD OF 'laws.FnExactOpFault'. -/
def fnExactOpFaultCard : Claim7 := { stood := { row := fnExactOpFaultRow, standIns := [], harness := (true, "51b58521302bbc2800a4bc7918879e2c72a2515d14f21b5f6e244ca2783b6b1b"), looks := false }, kinds := [], alts := [], laidByText := true, laidKinds := [.data, .pinned], laidTests := true, laidLooks := .later }
def FnExactOpFaultCardSaid : Prop := Claim7.holds Tryd.pinned (.plain (OpenSpec.ofChange fnExactOpFaultSpec)) fnExactOpFaultCard

/-- THE TIED CARD OF 'laws.FnExactRequestFault'. -/
def fnExactRequestFaultCard : Claim7 := { stood := { row := fnExactRequestFaultRow, standIns := [], harness := (true, "51b58521302bbc2800a4bc7918879e2c72a2515d14f21b5f6e244ca2783b6b1b"), looks := false }, kinds := [], alts := [], laidByText := true, laidKinds := [.data, .pinned], laidTests := true, laidLooks := .later }
def FnExactRequestFaultCardSaid : Prop := Claim7.holds Tryd.pinned (.plain (OpenSpec.ofChange fnExactRequestFaultSpec)) fnExactRequestFaultCard

/-- THE SECOND FORM's CARD OF 'laws.FnExactOpFault'. -/
def fnExactOpFaultUptoCard : Claim7 := { stood := { row := fnExactOpFaultUptoRow, standIns := [], harness := (true, "51b58521302bbc2800a4bc7918879e2c72a2515d14f21b5f6e244ca2783b6b1b"), looks := false }, kinds := [], alts := [], laidByText := true, laidKinds := [.data, .pinned], laidTests := true, laidLooks := .later }
def FnExactOpFaultUptoCardSaid : Prop := Claim7.holds Tryd.pinned (.plain (OpenSpec.upto fnExactOpFaultSpec)) fnExactOpFaultUptoCard

/-- THE SECOND FORM's CARD OF 'laws.FnExactRequestFault'. -/
def fnExactRequestFaultUptoCard : Claim7 := { stood := { row := fnExactRequestFaultUptoRow, standIns := [], harness := (true, "51b58521302bbc2800a4bc7918879e2c72a2515d14f21b5f6e244ca2783b6b1b"), looks := false }, kinds := [], alts := [], laidByText := true, laidKinds := [.data, .pinned], laidTests := true, laidLooks := .later }
def FnExactRequestFaultUptoCardSaid : Prop := Claim7.holds Tryd.pinned (.plain (OpenSpec.upto fnExactRequestFaultSpec)) fnExactRequestFaultUptoCard
end Rows
end Go.Proofs.YtbeghfdlbokhkaaDoor
