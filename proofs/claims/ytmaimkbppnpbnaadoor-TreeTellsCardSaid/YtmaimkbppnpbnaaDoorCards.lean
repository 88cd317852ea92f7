/-
  DERIVED. GIVEN WITH THE SEED: THE CARDS: each row of YtmaimkbppnpbnaaDoorRows.lean that lists a variable, with what it lists TIED to the program's text (the seventh form; the later family's looks); each row that meets fmt, with fmt's text TOLD by the authors' own Lean function (tested against real Go, not proved from fmt's source: count such statements apart). THE CARD IS WHAT COUNTS. Prove the row's statement (the work); the ties are given (YtmaimkbppnpbnaaDoorTie.lean); close each card by the builder's one call (the guide's Derived/Test/ToyasCard.lean, 'card_holds'). Laid BY PROGRAM, IN A SANDBOX (cutbox-door.mjs). By AI agents, Wed Nov 11 2026. No macro, syntax, notation, axiom, sorry.
-/
import Derived.Test.YtmaimkbppnpbnaaDoorRows
import GoSem.ClaimSeven
namespace Go.Proofs.YtmaimkbppnpbnaaDoor
namespace Rows

/-- THE TIED CARD OF 'beadrolllaw06.TreeRoads'. -/
def treeRoadsCard : Claim7 := { stood := { row := treeRoadsRow, standIns := [], harness := (true, "bc86a7fc52454f86e329054fc586390d99f9cc3e352366b968e449d643f36a35"), looks := false }, kinds := [], alts := [], laidByText := true, laidKinds := [.data], laidTests := true, laidLooks := .later }
def TreeRoadsCardSaid : Prop := Claim7.holds Tryd.pinned (.plain (OpenSpec.ofChange treeRoadsSpec)) treeRoadsCard

/-- THE TIED CARD OF 'beadrolllaw06.TreeTells'. -/
def treeTellsCard : Claim7 := { stood := { row := treeTellsRow, standIns := [], harness := (true, "bc86a7fc52454f86e329054fc586390d99f9cc3e352366b968e449d643f36a35"), looks := false }, kinds := [], alts := [], laidByText := true, laidKinds := [.data], laidTests := true, laidLooks := .later }
def TreeTellsCardSaid : Prop := Claim7.holds Tryd.pinned (.plain (OpenSpec.ofChange treeTellsSpec)) treeTellsCard

/-- THE TIED CARD OF 'beadrolllaw06.TreeNames'. -/
def treeNamesCard : Claim7 := { stood := { row := treeNamesRow, standIns := [], harness := (true, "bc86a7fc52454f86e329054fc586390d99f9cc3e352366b968e449d643f36a35"), looks := false }, kinds := [], alts := [], laidByText := true, laidKinds := [.data], laidTests := true, laidLooks := .later }
def TreeNamesCardSaid : Prop := Claim7.holds Tryd.pinned (.plain (OpenSpec.ofChange treeNamesSpec)) treeNamesCard

/-- THE TIED CARD OF 'beadrolllaw06.TreeStays'. -/
def treeStaysCard : Claim7 := { stood := { row := treeStaysRow, standIns := [], harness := (true, "bc86a7fc52454f86e329054fc586390d99f9cc3e352366b968e449d643f36a35"), looks := false }, kinds := [], alts := [], laidByText := true, laidKinds := [.data], laidTests := true, laidLooks := .later }
def TreeStaysCardSaid : Prop := Claim7.holds Tryd.pinned (.plain (OpenSpec.ofChange treeStaysSpec)) treeStaysCard

/-- THE TIED CARD OF 'beadrolllaw06.TreeMaps'. -/
def treeMapsCard : Claim7 := { stood := { row := treeMapsRow, standIns := [], harness := (true, "bc86a7fc52454f86e329054fc586390d99f9cc3e352366b968e449d643f36a35"), looks := false }, kinds := [], alts := [], laidByText := true, laidKinds := [.data], laidTests := true, laidLooks := .later }
def TreeMapsCardSaid : Prop := Claim7.holds Tryd.pinned (.plain (OpenSpec.ofChange treeMapsSpec)) treeMapsCard

/-- THE TIED CARD OF 'beadrolllaw07.ProofMakes'. -/
def proofMakesCard : Claim7 := { stood := { row := proofMakesRow, standIns := [], harness := (true, "bc86a7fc52454f86e329054fc586390d99f9cc3e352366b968e449d643f36a35"), looks := false }, kinds := [], alts := [], laidByText := true, laidKinds := [.data], laidTests := true, laidLooks := .later }
def ProofMakesCardSaid : Prop := Claim7.holds Tryd.pinned (.plain (OpenSpec.ofChange proofMakesSpec)) proofMakesCard

/-- THE TIED CARD OF 'beadrolllaw07.ProofNames'. -/
def proofNamesCard : Claim7 := { stood := { row := proofNamesRow, standIns := [], harness := (true, "bc86a7fc52454f86e329054fc586390d99f9cc3e352366b968e449d643f36a35"), looks := false }, kinds := [], alts := [], laidByText := true, laidKinds := [.data], laidTests := true, laidLooks := .later }
def ProofNamesCardSaid : Prop := Claim7.holds Tryd.pinned (.plain (OpenSpec.ofChange proofNamesSpec)) proofNamesCard

/-- THE TIED CARD OF 'beadrolllaw07.ProofTrue'. -/
def proofTrueCard : Claim7 := { stood := { row := proofTrueRow, standIns := [], harness := (true, "bc86a7fc52454f86e329054fc586390d99f9cc3e352366b968e449d643f36a35"), looks := false }, kinds := [], alts := [], laidByText := true, laidKinds := [.data], laidTests := true, laidLooks := .later }
def ProofTrueCardSaid : Prop := Claim7.holds Tryd.pinned (.plain (OpenSpec.ofChange proofTrueSpec)) proofTrueCard

/-- THE TIED CARD OF 'beadrolllaw07.ProofOne'. -/
def proofOneCard : Claim7 := { stood := { row := proofOneRow, standIns := [], harness := (true, "bc86a7fc52454f86e329054fc586390d99f9cc3e352366b968e449d643f36a35"), looks := false }, kinds := [], alts := [], laidByText := true, laidKinds := [.data], laidTests := true, laidLooks := .later }
def ProofOneCardSaid : Prop := Claim7.holds Tryd.pinned (.plain (OpenSpec.ofChange proofOneSpec)) proofOneCard

/-- THE TIED CARD OF 'beadrolllaw08.VerifyMade'. -/
def verifyMadeCard : Claim7 := { stood := { row := verifyMadeRow, standIns := [], harness := (true, "bc86a7fc52454f86e329054fc586390d99f9cc3e352366b968e449d643f36a35"), looks := false }, kinds := [], alts := [], laidByText := true, laidKinds := [.data], laidTests := true, laidLooks := .later }
def VerifyMadeCardSaid : Prop := Claim7.holds Tryd.pinned (.plain (OpenSpec.ofChange verifyMadeSpec)) verifyMadeCard

/-- THE TIED CARD OF 'beadrolllaw09.ClashTells'. -/
def clashTellsCard : Claim7 := { stood := { row := clashTellsRow, standIns := [], harness := (true, "bc86a7fc52454f86e329054fc586390d99f9cc3e352366b968e449d643f36a35"), looks := false }, kinds := [], alts := [], laidByText := true, laidKinds := [.data], laidTests := true, laidLooks := .later }
def ClashTellsCardSaid : Prop := Claim7.holds Tryd.pinned (.plain (OpenSpec.ofChange clashTellsSpec)) clashTellsCard

/-- THE SECOND FORM's CARD OF 'beadrolllaw06.TreeRoads'. -/
def treeRoadsUptoCard : Claim7 := { stood := { row := treeRoadsUptoRow, standIns := [], harness := (true, "bc86a7fc52454f86e329054fc586390d99f9cc3e352366b968e449d643f36a35"), looks := false }, kinds := [], alts := [], laidByText := true, laidKinds := [.data], laidTests := true, laidLooks := .later }
def TreeRoadsUptoCardSaid : Prop := Claim7.holds Tryd.pinned (.plain (OpenSpec.upto treeRoadsSpec)) treeRoadsUptoCard

/-- THE SECOND FORM's CARD OF 'beadrolllaw06.TreeTells'. -/
def treeTellsUptoCard : Claim7 := { stood := { row := treeTellsUptoRow, standIns := [], harness := (true, "bc86a7fc52454f86e329054fc586390d99f9cc3e352366b968e449d643f36a35"), looks := false }, kinds := [], alts := [], laidByText := true, laidKinds := [.data], laidTests := true, laidLooks := .later }
def TreeTellsUptoCardSaid : Prop := Claim7.holds Tryd.pinned (.plain (OpenSpec.upto treeTellsSpec)) treeTellsUptoCard

/-- THE SECOND FORM's CARD OF 'beadrolllaw06.TreeNames'. -/
def treeNamesUptoCard : Claim7 := { stood := { row := treeNamesUptoRow, standIns := [], harness := (true, "bc86a7fc52454f86e329054fc586390d99f9cc3e352366b968e449d643f36a35"), looks := false }, kinds := [], alts := [], laidByText := true, laidKinds := [.data], laidTests := true, laidLooks := .later }
def TreeNamesUptoCardSaid : Prop := Claim7.holds Tryd.pinned (.plain (OpenSpec.upto treeNamesSpec)) treeNamesUptoCard

/-- THE SECOND FORM's CARD OF 'beadrolllaw06.TreeStays'. -/
def treeStaysUptoCard : Claim7 := { stood := { row := treeStaysUptoRow, standIns := [], harness := (true, "bc86a7fc52454f86e329054fc586390d99f9cc3e352366b968e449d643f36a35"), looks := false }, kinds := [], alts := [], laidByText := true, laidKinds := [.data], laidTests := true, laidLooks := .later }
def TreeStaysUptoCardSaid : Prop := Claim7.holds Tryd.pinned (.plain (OpenSpec.upto treeStaysSpec)) treeStaysUptoCard

/-- THE SECOND FORM's CARD OF 'beadrolllaw06.TreeMaps'. -/
def treeMapsUptoCard : Claim7 := { stood := { row := treeMapsUptoRow, standIns := [], harness := (true, "bc86a7fc52454f86e329054fc586390d99f9cc3e352366b968e449d643f36a35"), looks := false }, kinds := [], alts := [], laidByText := true, laidKinds := [.data], laidTests := true, laidLooks := .later }
def TreeMapsUptoCardSaid : Prop := Claim7.holds Tryd.pinned (.plain (OpenSpec.upto treeMapsSpec)) treeMapsUptoCard

/-- THE SECOND FORM's CARD OF 'beadrolllaw07.ProofMakes'. -/
def proofMakesUptoCard : Claim7 := { stood := { row := proofMakesUptoRow, standIns := [], harness := (true, "bc86a7fc52454f86e329054fc586390d99f9cc3e352366b968e449d643f36a35"), looks := false }, kinds := [], alts := [], laidByText := true, laidKinds := [.data], laidTests := true, laidLooks := .later }
def ProofMakesUptoCardSaid : Prop := Claim7.holds Tryd.pinned (.plain (OpenSpec.upto proofMakesSpec)) proofMakesUptoCard

/-- THE SECOND FORM's CARD OF 'beadrolllaw07.ProofNames'. -/
def proofNamesUptoCard : Claim7 := { stood := { row := proofNamesUptoRow, standIns := [], harness := (true, "bc86a7fc52454f86e329054fc586390d99f9cc3e352366b968e449d643f36a35"), looks := false }, kinds := [], alts := [], laidByText := true, laidKinds := [.data], laidTests := true, laidLooks := .later }
def ProofNamesUptoCardSaid : Prop := Claim7.holds Tryd.pinned (.plain (OpenSpec.upto proofNamesSpec)) proofNamesUptoCard

/-- THE SECOND FORM's CARD OF 'beadrolllaw07.ProofTrue'. -/
def proofTrueUptoCard : Claim7 := { stood := { row := proofTrueUptoRow, standIns := [], harness := (true, "bc86a7fc52454f86e329054fc586390d99f9cc3e352366b968e449d643f36a35"), looks := false }, kinds := [], alts := [], laidByText := true, laidKinds := [.data], laidTests := true, laidLooks := .later }
def ProofTrueUptoCardSaid : Prop := Claim7.holds Tryd.pinned (.plain (OpenSpec.upto proofTrueSpec)) proofTrueUptoCard

/-- THE SECOND FORM's CARD OF 'beadrolllaw07.ProofOne'. -/
def proofOneUptoCard : Claim7 := { stood := { row := proofOneUptoRow, standIns := [], harness := (true, "bc86a7fc52454f86e329054fc586390d99f9cc3e352366b968e449d643f36a35"), looks := false }, kinds := [], alts := [], laidByText := true, laidKinds := [.data], laidTests := true, laidLooks := .later }
def ProofOneUptoCardSaid : Prop := Claim7.holds Tryd.pinned (.plain (OpenSpec.upto proofOneSpec)) proofOneUptoCard

/-- THE SECOND FORM's CARD OF 'beadrolllaw08.VerifyMade'. -/
def verifyMadeUptoCard : Claim7 := { stood := { row := verifyMadeUptoRow, standIns := [], harness := (true, "bc86a7fc52454f86e329054fc586390d99f9cc3e352366b968e449d643f36a35"), looks := false }, kinds := [], alts := [], laidByText := true, laidKinds := [.data], laidTests := true, laidLooks := .later }
def VerifyMadeUptoCardSaid : Prop := Claim7.holds Tryd.pinned (.plain (OpenSpec.upto verifyMadeSpec)) verifyMadeUptoCard

/-- THE SECOND FORM's CARD OF 'beadrolllaw09.ClashTells'. -/
def clashTellsUptoCard : Claim7 := { stood := { row := clashTellsUptoRow, standIns := [], harness := (true, "bc86a7fc52454f86e329054fc586390d99f9cc3e352366b968e449d643f36a35"), looks := false }, kinds := [], alts := [], laidByText := true, laidKinds := [.data], laidTests := true, laidLooks := .later }
def ClashTellsUptoCardSaid : Prop := Claim7.holds Tryd.pinned (.plain (OpenSpec.upto clashTellsSpec)) clashTellsUptoCard
end Rows
end Go.Proofs.YtmaimkbppnpbnaaDoor
