/-
  DERIVED. GIVEN WITH THE SEED: THE CARDS: each row of YtlfhpljeeedbdaaDoorRows.lean that lists a variable, with what it lists TIED to the program's text (the seventh form; the later family's looks); each row that meets fmt, with fmt's text TOLD by the authors' own Lean function (tested against real Go, not proved from fmt's source: count such statements apart). THE CARD IS WHAT COUNTS. Prove the row's statement (the work); the ties are given (YtlfhpljeeedbdaaDoorTie.lean); close each card by the builder's one call (the guide's Derived/Test/ToyasCard.lean, 'card_holds'). Laid BY PROGRAM, IN A SANDBOX (cutbox-door.mjs). By AI agents, Wed Nov 11 2026. No macro, syntax, notation, axiom, sorry.
-/
import Derived.Test.YtlfhpljeeedbdaaDoorRows
import GoSem.ClaimSeven
namespace Go.Proofs.YtlfhpljeeedbdaaDoor
namespace Rows

/-- THE TIED CARD OF 'laws.FnExactIsUnder'. -/
def fnExactIsUnderCard : Claim7 := { stood := { row := fnExactIsUnderRow, standIns := [], harness := (true, "9fa0d62fc799f098ea874e34acb53ff7ccc8894fa20a38f0b1fc25b4f989824a"), looks := false }, kinds := [], alts := [], laidByText := true, laidKinds := [.data, .pinned], laidTests := true, laidLooks := .later }
def FnExactIsUnderCardSaid : Prop := Claim7.holds Tryd.pinned (.plain (OpenSpec.ofChange fnExactIsUnderSpec)) fnExactIsUnderCard

/-- THE TIED CARD OF 'laws.FnExactDeepIn'. -/
def fnExactDeepInCard : Claim7 := { stood := { row := fnExactDeepInRow, standIns := [], harness := (true, "9fa0d62fc799f098ea874e34acb53ff7ccc8894fa20a38f0b1fc25b4f989824a"), looks := false }, kinds := [], alts := [], laidByText := true, laidKinds := [.data, .pinned], laidTests := true, laidLooks := .later }
def FnExactDeepInCardSaid : Prop := Claim7.holds Tryd.pinned (.plain (OpenSpec.ofChange fnExactDeepInSpec)) fnExactDeepInCard

/-- THE TIED CARD OF 'laws.FnExactJoinPath'. -/
def fnExactJoinPathCard : Claim7 := { stood := { row := fnExactJoinPathRow, standIns := [], harness := (true, "9fa0d62fc799f098ea874e34acb53ff7ccc8894fa20a38f0b1fc25b4f989824a"), looks := false }, kinds := [], alts := [], laidByText := true, laidKinds := [.data, .pinned], laidTests := true, laidLooks := .later }
def FnExactJoinPathCardSaid : Prop := Claim7.holds Tryd.pinned (.plain (OpenSpec.ofChange fnExactJoinPathSpec)) fnExactJoinPathCard

/-- THE TIED CARD OF 'laws.FnExactNameIn'. -/
def fnExactNameInCard : Claim7 := { stood := { row := fnExactNameInRow, standIns := [], harness := (true, "9fa0d62fc799f098ea874e34acb53ff7ccc8894fa20a38f0b1fc25b4f989824a"), looks := false }, kinds := [], alts := [], laidByText := true, laidKinds := [.data, .pinned], laidTests := true, laidLooks := .later }
def FnExactNameInCardSaid : Prop := Claim7.holds Tryd.pinned (.plain (OpenSpec.ofChange fnExactNameInSpec)) fnExactNameInCard

/-- THE TIED CARD OF 'laws.FnExactParentOf'. -/
def fnExactParentOfCard : Claim7 := { stood := { row := fnExactParentOfRow, standIns := [], harness := (true, "9fa0d62fc799f098ea874e34acb53ff7ccc8894fa20a38f0b1fc25b4f989824a"), looks := false }, kinds := [], alts := [], laidByText := true, laidKinds := [.data, .pinned], laidTests := true, laidLooks := .later }
def FnExactParentOfCardSaid : Prop := Claim7.holds Tryd.pinned (.plain (OpenSpec.ofChange fnExactParentOfSpec)) fnExactParentOfCard

/-- THE TIED CARD OF 'laws.FnPaths'. -/
def fnPathsCard : Claim7 := { stood := { row := fnPathsRow, standIns := [], harness := (true, "9fa0d62fc799f098ea874e34acb53ff7ccc8894fa20a38f0b1fc25b4f989824a"), looks := false }, kinds := [], alts := [], laidByText := true, laidKinds := [.data, .pinned], laidTests := true, laidLooks := .later }
def FnPathsCardSaid : Prop := Claim7.holds Tryd.pinned (.plain (OpenSpec.ofChange fnPathsSpec)) fnPathsCard

/-- THE TIED CARD OF 'laws.FnExactLeafSum'. -/
def fnExactLeafSumCard : Claim7 := { stood := { row := fnExactLeafSumRow, standIns := [], harness := (true, "9fa0d62fc799f098ea874e34acb53ff7ccc8894fa20a38f0b1fc25b4f989824a"), looks := false }, kinds := [], alts := [], laidByText := true, laidKinds := [.data, .pinned], laidTests := true, laidLooks := .later }
def FnExactLeafSumCardSaid : Prop := Claim7.holds Tryd.pinned (.plain (OpenSpec.ofChange fnExactLeafSumSpec)) fnExactLeafSumCard

/-- THE TIED CARD OF 'laws.FnExactCheckProof'. -/
def fnExactCheckProofCard : Claim7 := { stood := { row := fnExactCheckProofRow, standIns := [], harness := (true, "9fa0d62fc799f098ea874e34acb53ff7ccc8894fa20a38f0b1fc25b4f989824a"), looks := false }, kinds := [], alts := [], laidByText := true, laidKinds := [.data, .pinned], laidTests := true, laidLooks := .later }
def FnExactCheckProofCardSaid : Prop := Claim7.holds Tryd.pinned (.plain (OpenSpec.ofChange fnExactCheckProofSpec)) fnExactCheckProofCard

/-- THE SECOND FORM's CARD OF 'laws.FnExactIsUnder'. -/
def fnExactIsUnderUptoCard : Claim7 := { stood := { row := fnExactIsUnderUptoRow, standIns := [], harness := (true, "9fa0d62fc799f098ea874e34acb53ff7ccc8894fa20a38f0b1fc25b4f989824a"), looks := false }, kinds := [], alts := [], laidByText := true, laidKinds := [.data, .pinned], laidTests := true, laidLooks := .later }
def FnExactIsUnderUptoCardSaid : Prop := Claim7.holds Tryd.pinned (.plain (OpenSpec.upto fnExactIsUnderSpec)) fnExactIsUnderUptoCard

/-- THE SECOND FORM's CARD OF 'laws.FnExactDeepIn'. -/
def fnExactDeepInUptoCard : Claim7 := { stood := { row := fnExactDeepInUptoRow, standIns := [], harness := (true, "9fa0d62fc799f098ea874e34acb53ff7ccc8894fa20a38f0b1fc25b4f989824a"), looks := false }, kinds := [], alts := [], laidByText := true, laidKinds := [.data, .pinned], laidTests := true, laidLooks := .later }
def FnExactDeepInUptoCardSaid : Prop := Claim7.holds Tryd.pinned (.plain (OpenSpec.upto fnExactDeepInSpec)) fnExactDeepInUptoCard

/-- THE SECOND FORM's CARD OF 'laws.FnExactJoinPath'. -/
def fnExactJoinPathUptoCard : Claim7 := { stood := { row := fnExactJoinPathUptoRow, standIns := [], harness := (true, "9fa0d62fc799f098ea874e34acb53ff7ccc8894fa20a38f0b1fc25b4f989824a"), looks := false }, kinds := [], alts := [], laidByText := true, laidKinds := [.data, .pinned], laidTests := true, laidLooks := .later }
def FnExactJoinPathUptoCardSaid : Prop := Claim7.holds Tryd.pinned (.plain (OpenSpec.upto fnExactJoinPathSpec)) fnExactJoinPathUptoCard

/-- THE SECOND FORM's CARD OF 'laws.FnExactNameIn'. -/
def fnExactNameInUptoCard : Claim7 := { stood := { row := fnExactNameInUptoRow, standIns := [], harness := (true, "9fa0d62fc799f098ea874e34acb53ff7ccc8894fa20a38f0b1fc25b4f989824a"), looks := false }, kinds := [], alts := [], laidByText := true, laidKinds := [.data, .pinned], laidTests := true, laidLooks := .later }
def FnExactNameInUptoCardSaid : Prop := Claim7.holds Tryd.pinned (.plain (OpenSpec.upto fnExactNameInSpec)) fnExactNameInUptoCard

/-- THE SECOND FORM's CARD OF 'laws.FnExactParentOf'. -/
def fnExactParentOfUptoCard : Claim7 := { stood := { row := fnExactParentOfUptoRow, standIns := [], harness := (true, "9fa0d62fc799f098ea874e34acb53ff7ccc8894fa20a38f0b1fc25b4f989824a"), looks := false }, kinds := [], alts := [], laidByText := true, laidKinds := [.data, .pinned], laidTests := true, laidLooks := .later }
def FnExactParentOfUptoCardSaid : Prop := Claim7.holds Tryd.pinned (.plain (OpenSpec.upto fnExactParentOfSpec)) fnExactParentOfUptoCard

/-- THE SECOND FORM's CARD OF 'laws.FnPaths'. -/
def fnPathsUptoCard : Claim7 := { stood := { row := fnPathsUptoRow, standIns := [], harness := (true, "9fa0d62fc799f098ea874e34acb53ff7ccc8894fa20a38f0b1fc25b4f989824a"), looks := false }, kinds := [], alts := [], laidByText := true, laidKinds := [.data, .pinned], laidTests := true, laidLooks := .later }
def FnPathsUptoCardSaid : Prop := Claim7.holds Tryd.pinned (.plain (OpenSpec.upto fnPathsSpec)) fnPathsUptoCard

/-- THE SECOND FORM's CARD OF 'laws.FnExactLeafSum'. -/
def fnExactLeafSumUptoCard : Claim7 := { stood := { row := fnExactLeafSumUptoRow, standIns := [], harness := (true, "9fa0d62fc799f098ea874e34acb53ff7ccc8894fa20a38f0b1fc25b4f989824a"), looks := false }, kinds := [], alts := [], laidByText := true, laidKinds := [.data, .pinned], laidTests := true, laidLooks := .later }
def FnExactLeafSumUptoCardSaid : Prop := Claim7.holds Tryd.pinned (.plain (OpenSpec.upto fnExactLeafSumSpec)) fnExactLeafSumUptoCard

/-- THE SECOND FORM's CARD OF 'laws.FnExactCheckProof'. -/
def fnExactCheckProofUptoCard : Claim7 := { stood := { row := fnExactCheckProofUptoRow, standIns := [], harness := (true, "9fa0d62fc799f098ea874e34acb53ff7ccc8894fa20a38f0b1fc25b4f989824a"), looks := false }, kinds := [], alts := [], laidByText := true, laidKinds := [.data, .pinned], laidTests := true, laidLooks := .later }
def FnExactCheckProofUptoCardSaid : Prop := Claim7.holds Tryd.pinned (.plain (OpenSpec.upto fnExactCheckProofSpec)) fnExactCheckProofUptoCard
end Rows
end Go.Proofs.YtlfhpljeeedbdaaDoor
