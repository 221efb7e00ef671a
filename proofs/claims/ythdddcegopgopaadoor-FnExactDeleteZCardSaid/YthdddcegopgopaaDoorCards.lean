/-
  DERIVED. GIVEN WITH THE SEED: THE CARDS: each row of YthdddcegopgopaaDoorRows.lean that lists a variable, with what it lists TIED to the program's text (the seventh form; the later family's looks); each row that meets fmt, with fmt's text TOLD by the authors' own Lean function (tested against real Go, not proved from fmt's source: count such statements apart). THE CARD IS WHAT COUNTS. Prove the row's statement (the work); the ties are given (YthdddcegopgopaaDoorTie.lean); close each card by the builder's one call (the guide's Derived/Test/ToyasCard.lean, 'card_holds'). Laid BY PROGRAM, IN A SANDBOX (cutbox-door.mjs). By AI agents, Wed Nov 11 2026. No macro, syntax, notation, axiom, sorry.
-/
import Derived.Test.YthdddcegopgopaaDoorRows
import GoSem.ClaimSeven
namespace Go.Proofs.YthdddcegopgopaaDoor
namespace Rows

/-- THE TIED CARD OF 'laws.FnExactDeleteZ'. -/
def fnExactDeleteZCard : Claim7 := { stood := { row := fnExactDeleteZRow, standIns := [], harness := (true, "fda6b4340300b8f0947f64e0905329ed75d9b283f440d0dd1f0d821ac26757c8"), looks := false }, kinds := [], alts := [], laidByText := true, laidKinds := [.data, .pinned], laidTests := true, laidLooks := .later }
def FnExactDeleteZCardSaid : Prop := Claim7.holds Tryd.pinned (.plain (OpenSpec.ofChange fnExactDeleteZSpec)) fnExactDeleteZCard

/-- THE TIED CARD OF 'laws.FnExactCreateZ'. -/
def fnExactCreateZCard : Claim7 := { stood := { row := fnExactCreateZRow, standIns := [], harness := (true, "fda6b4340300b8f0947f64e0905329ed75d9b283f440d0dd1f0d821ac26757c8"), looks := false }, kinds := [], alts := [], laidByText := true, laidKinds := [.data, .pinned], laidTests := true, laidLooks := .later }
def FnExactCreateZCardSaid : Prop := Claim7.holds Tryd.pinned (.plain (OpenSpec.ofChange fnExactCreateZSpec)) fnExactCreateZCard

/-- THE TIED CARD OF 'laws.FnExactDropOwned'. -/
def fnExactDropOwnedCard : Claim7 := { stood := { row := fnExactDropOwnedRow, standIns := [], harness := (true, "fda6b4340300b8f0947f64e0905329ed75d9b283f440d0dd1f0d821ac26757c8"), looks := false }, kinds := [], alts := [], laidByText := true, laidKinds := [.data, .pinned], laidTests := true, laidLooks := .later }
def FnExactDropOwnedCardSaid : Prop := Claim7.holds Tryd.pinned (.plain (OpenSpec.ofChange fnExactDropOwnedSpec)) fnExactDropOwnedCard

/-- THE SECOND FORM's CARD OF 'laws.FnExactDeleteZ'. -/
def fnExactDeleteZUptoCard : Claim7 := { stood := { row := fnExactDeleteZUptoRow, standIns := [], harness := (true, "fda6b4340300b8f0947f64e0905329ed75d9b283f440d0dd1f0d821ac26757c8"), looks := false }, kinds := [], alts := [], laidByText := true, laidKinds := [.data, .pinned], laidTests := true, laidLooks := .later }
def FnExactDeleteZUptoCardSaid : Prop := Claim7.holds Tryd.pinned (.plain (OpenSpec.upto fnExactDeleteZSpec)) fnExactDeleteZUptoCard

/-- THE SECOND FORM's CARD OF 'laws.FnExactCreateZ'. -/
def fnExactCreateZUptoCard : Claim7 := { stood := { row := fnExactCreateZUptoRow, standIns := [], harness := (true, "fda6b4340300b8f0947f64e0905329ed75d9b283f440d0dd1f0d821ac26757c8"), looks := false }, kinds := [], alts := [], laidByText := true, laidKinds := [.data, .pinned], laidTests := true, laidLooks := .later }
def FnExactCreateZUptoCardSaid : Prop := Claim7.holds Tryd.pinned (.plain (OpenSpec.upto fnExactCreateZSpec)) fnExactCreateZUptoCard

/-- THE SECOND FORM's CARD OF 'laws.FnExactDropOwned'. -/
def fnExactDropOwnedUptoCard : Claim7 := { stood := { row := fnExactDropOwnedUptoRow, standIns := [], harness := (true, "fda6b4340300b8f0947f64e0905329ed75d9b283f440d0dd1f0d821ac26757c8"), looks := false }, kinds := [], alts := [], laidByText := true, laidKinds := [.data, .pinned], laidTests := true, laidLooks := .later }
def FnExactDropOwnedUptoCardSaid : Prop := Claim7.holds Tryd.pinned (.plain (OpenSpec.upto fnExactDropOwnedSpec)) fnExactDropOwnedUptoCard
end Rows
end Go.Proofs.YthdddcegopgopaaDoor
