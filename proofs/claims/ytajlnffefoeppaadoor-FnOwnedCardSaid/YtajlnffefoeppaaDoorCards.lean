/-
  DERIVED. GIVEN WITH THE SEED: THE CARDS: each row of YtajlnffefoeppaaDoorRows.lean that lists a variable, with what it lists TIED to the program's text (the seventh form; the later family's looks); each row that meets fmt, with fmt's text TOLD by the authors' own Lean function (tested against real Go, not proved from fmt's source: count such statements apart). THE CARD IS WHAT COUNTS. Prove the row's statement (the work); the ties are given (YtajlnffefoeppaaDoorTie.lean); close each card by the builder's one call (the guide's Derived/Test/ToyasCard.lean, 'card_holds'). Laid BY PROGRAM, IN A SANDBOX (cutbox-door.mjs). By AI agents, Wed Nov 11 2026. No macro, syntax, notation, axiom, sorry.
-/
import Derived.Test.YtajlnffefoeppaaDoorRows
import GoSem.ClaimSeven
namespace Go.Proofs.YtajlnffefoeppaaDoor
namespace Rows

/-- THE TIED CARD OF 'laws.FnExactDropOwned'. -/
def fnExactDropOwnedCard : Claim7 := { stood := { row := fnExactDropOwnedRow, standIns := [], harness := (true, "861c6fb4279ed6e3dfecf8c9d75eedd91f0ed84220785ae413db87a7445cdf03"), looks := false }, kinds := [], alts := [], laidByText := true, laidKinds := [.data, .pinned], laidTests := true, laidLooks := .later }
def FnExactDropOwnedCardSaid : Prop := Claim7.holds Tryd.pinned (.plain (OpenSpec.ofChange fnExactDropOwnedSpec)) fnExactDropOwnedCard

/-- THE TIED CARD OF 'laws.FnOwned'. -/
def fnOwnedCard : Claim7 := { stood := { row := fnOwnedRow, standIns := [], harness := (true, "861c6fb4279ed6e3dfecf8c9d75eedd91f0ed84220785ae413db87a7445cdf03"), looks := false }, kinds := [], alts := [], laidByText := true, laidKinds := [.data, .pinned], laidTests := true, laidLooks := .later }
def FnOwnedCardSaid : Prop := Claim7.holds Tryd.pinned (.plain (OpenSpec.ofChange fnOwnedSpec)) fnOwnedCard

/-- THE SECOND FORM's CARD OF 'laws.FnExactDropOwned'. -/
def fnExactDropOwnedUptoCard : Claim7 := { stood := { row := fnExactDropOwnedUptoRow, standIns := [], harness := (true, "861c6fb4279ed6e3dfecf8c9d75eedd91f0ed84220785ae413db87a7445cdf03"), looks := false }, kinds := [], alts := [], laidByText := true, laidKinds := [.data, .pinned], laidTests := true, laidLooks := .later }
def FnExactDropOwnedUptoCardSaid : Prop := Claim7.holds Tryd.pinned (.plain (OpenSpec.upto fnExactDropOwnedSpec)) fnExactDropOwnedUptoCard

/-- THE SECOND FORM's CARD OF 'laws.FnOwned'. -/
def fnOwnedUptoCard : Claim7 := { stood := { row := fnOwnedUptoRow, standIns := [], harness := (true, "861c6fb4279ed6e3dfecf8c9d75eedd91f0ed84220785ae413db87a7445cdf03"), looks := false }, kinds := [], alts := [], laidByText := true, laidKinds := [.data, .pinned], laidTests := true, laidLooks := .later }
def FnOwnedUptoCardSaid : Prop := Claim7.holds Tryd.pinned (.plain (OpenSpec.upto fnOwnedSpec)) fnOwnedUptoCard
end Rows
end Go.Proofs.YtajlnffefoeppaaDoor
