/-
  DERIVED. GIVEN WITH THE SEED: THE CARDS: each row of YtdemicncljgccaaDoorRows.lean that lists a variable, with what it lists TIED to the program's text (the seventh form; the later family's looks); each row that meets fmt, with fmt's text TOLD by the authors' own Lean function (tested against real Go, not proved from fmt's source: count such statements apart). THE CARD IS WHAT COUNTS. Prove the row's statement (the work); the ties are given (YtdemicncljgccaaDoorTie.lean); close each card by the builder's one call (the guide's Derived/Test/ToyasCard.lean, 'card_holds'). Laid BY PROGRAM, IN A SANDBOX (cutbox-door.mjs). By AI agents, Wed Nov 11 2026. No macro, syntax, notation, axiom, sorry.
-/
import Derived.Test.YtdemicncljgccaaDoorRows
import GoSem.ClaimSeven
namespace Go.Proofs.YtdemicncljgccaaDoor
namespace Rows

/-- THE TIED CARD OF 'laws.FnExactTreeFault'. -/
def fnExactTreeFaultCard : Claim7 := { stood := { row := fnExactTreeFaultRow, standIns := [], harness := (true, "07ce9bcf5ebd61c6439111617cc81b0fe086824567e940ca6dc685d0e812f4cf"), looks := false }, kinds := [], alts := [], laidByText := true, laidKinds := [.data, .pinned], laidTests := true, laidLooks := .later }
def FnExactTreeFaultCardSaid : Prop := Claim7.holds Tryd.pinned (.plain (OpenSpec.ofChange fnExactTreeFaultSpec)) fnExactTreeFaultCard

/-- THE TIED CARD OF 'laws.FnExactGetZ'. -/
def fnExactGetZCard : Claim7 := { stood := { row := fnExactGetZRow, standIns := [], harness := (true, "07ce9bcf5ebd61c6439111617cc81b0fe086824567e940ca6dc685d0e812f4cf"), looks := false }, kinds := [], alts := [], laidByText := true, laidKinds := [.data, .pinned], laidTests := true, laidLooks := .later }
def FnExactGetZCardSaid : Prop := Claim7.holds Tryd.pinned (.plain (OpenSpec.ofChange fnExactGetZSpec)) fnExactGetZCard

/-- THE TIED CARD OF 'laws.FnExactKidsZ'. -/
def fnExactKidsZCard : Claim7 := { stood := { row := fnExactKidsZRow, standIns := [], harness := (true, "07ce9bcf5ebd61c6439111617cc81b0fe086824567e940ca6dc685d0e812f4cf"), looks := false }, kinds := [], alts := [], laidByText := true, laidKinds := [.data, .pinned], laidTests := true, laidLooks := .later }
def FnExactKidsZCardSaid : Prop := Claim7.holds Tryd.pinned (.plain (OpenSpec.ofChange fnExactKidsZSpec)) fnExactKidsZCard

/-- THE TIED CARD OF 'laws.FnExactSetZ'. -/
def fnExactSetZCard : Claim7 := { stood := { row := fnExactSetZRow, standIns := [], harness := (true, "07ce9bcf5ebd61c6439111617cc81b0fe086824567e940ca6dc685d0e812f4cf"), looks := false }, kinds := [], alts := [], laidByText := true, laidKinds := [.data, .pinned], laidTests := true, laidLooks := .later }
def FnExactSetZCardSaid : Prop := Claim7.holds Tryd.pinned (.plain (OpenSpec.ofChange fnExactSetZSpec)) fnExactSetZCard

/-- THE SECOND FORM's CARD OF 'laws.FnExactTreeFault'. -/
def fnExactTreeFaultUptoCard : Claim7 := { stood := { row := fnExactTreeFaultUptoRow, standIns := [], harness := (true, "07ce9bcf5ebd61c6439111617cc81b0fe086824567e940ca6dc685d0e812f4cf"), looks := false }, kinds := [], alts := [], laidByText := true, laidKinds := [.data, .pinned], laidTests := true, laidLooks := .later }
def FnExactTreeFaultUptoCardSaid : Prop := Claim7.holds Tryd.pinned (.plain (OpenSpec.upto fnExactTreeFaultSpec)) fnExactTreeFaultUptoCard

/-- THE SECOND FORM's CARD OF 'laws.FnExactGetZ'. -/
def fnExactGetZUptoCard : Claim7 := { stood := { row := fnExactGetZUptoRow, standIns := [], harness := (true, "07ce9bcf5ebd61c6439111617cc81b0fe086824567e940ca6dc685d0e812f4cf"), looks := false }, kinds := [], alts := [], laidByText := true, laidKinds := [.data, .pinned], laidTests := true, laidLooks := .later }
def FnExactGetZUptoCardSaid : Prop := Claim7.holds Tryd.pinned (.plain (OpenSpec.upto fnExactGetZSpec)) fnExactGetZUptoCard

/-- THE SECOND FORM's CARD OF 'laws.FnExactKidsZ'. -/
def fnExactKidsZUptoCard : Claim7 := { stood := { row := fnExactKidsZUptoRow, standIns := [], harness := (true, "07ce9bcf5ebd61c6439111617cc81b0fe086824567e940ca6dc685d0e812f4cf"), looks := false }, kinds := [], alts := [], laidByText := true, laidKinds := [.data, .pinned], laidTests := true, laidLooks := .later }
def FnExactKidsZUptoCardSaid : Prop := Claim7.holds Tryd.pinned (.plain (OpenSpec.upto fnExactKidsZSpec)) fnExactKidsZUptoCard

/-- THE SECOND FORM's CARD OF 'laws.FnExactSetZ'. -/
def fnExactSetZUptoCard : Claim7 := { stood := { row := fnExactSetZUptoRow, standIns := [], harness := (true, "07ce9bcf5ebd61c6439111617cc81b0fe086824567e940ca6dc685d0e812f4cf"), looks := false }, kinds := [], alts := [], laidByText := true, laidKinds := [.data, .pinned], laidTests := true, laidLooks := .later }
def FnExactSetZUptoCardSaid : Prop := Claim7.holds Tryd.pinned (.plain (OpenSpec.upto fnExactSetZSpec)) fnExactSetZUptoCard
end Rows
end Go.Proofs.YtdemicncljgccaaDoor
