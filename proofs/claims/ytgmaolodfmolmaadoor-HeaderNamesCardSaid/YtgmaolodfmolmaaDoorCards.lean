/-
  DERIVED. GIVEN WITH THE SEED: THE CARDS: each row of YtgmaolodfmolmaaDoorRows.lean that lists a variable, with what it lists TIED to the program's text (the seventh form; the later family's looks); each row that meets fmt, with fmt's text TOLD by the authors' own Lean function (tested against real Go, not proved from fmt's source: count such statements apart). THE CARD IS WHAT COUNTS. Prove the row's statement (the work); the ties are given (YtgmaolodfmolmaaDoorTie.lean); close each card by the builder's one call (the guide's Derived/Test/ToyasCard.lean, 'card_holds'). Laid BY PROGRAM, IN A SANDBOX (cutbox-door.mjs). By AI agents, Wed Nov 11 2026. No macro, syntax, notation, axiom, sorry.
-/
import Derived.Test.YtgmaolodfmolmaaDoorRows
import GoSem.ClaimSeven
namespace Go.Proofs.YtgmaolodfmolmaaDoor
namespace Rows

/-- THE TIED CARD OF 'beadrolllaw14.HeaderNames'. -/
def headerNamesCard : Claim7 := { stood := { row := headerNamesRow, standIns := [], harness := (true, "d5bdad35b710b2ddc4e4bd5cedf4edd8a33f7c17171d670c88421d84f84488f9"), looks := false }, kinds := [], alts := [], laidByText := true, laidKinds := [.data], laidTests := true, laidLooks := .later }
def HeaderNamesCardSaid : Prop := Claim7.holds Tryd.pinned (.plain (OpenSpec.ofChange headerNamesSpec)) headerNamesCard

/-- THE SECOND FORM's CARD OF 'beadrolllaw14.HeaderNames'. -/
def headerNamesUptoCard : Claim7 := { stood := { row := headerNamesUptoRow, standIns := [], harness := (true, "d5bdad35b710b2ddc4e4bd5cedf4edd8a33f7c17171d670c88421d84f84488f9"), looks := false }, kinds := [], alts := [], laidByText := true, laidKinds := [.data], laidTests := true, laidLooks := .later }
def HeaderNamesUptoCardSaid : Prop := Claim7.holds Tryd.pinned (.plain (OpenSpec.upto headerNamesSpec)) headerNamesUptoCard
end Rows
end Go.Proofs.YtgmaolodfmolmaaDoor
