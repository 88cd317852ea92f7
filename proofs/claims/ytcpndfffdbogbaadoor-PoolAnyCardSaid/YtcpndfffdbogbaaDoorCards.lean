/-
  DERIVED. GIVEN WITH THE SEED: THE CARDS: each row of YtcpndfffdbogbaaDoorRows.lean that lists a variable, with what it lists TIED to the program's text (the seventh form; the later family's looks); each row that meets fmt, with fmt's text TOLD by the authors' own Lean function (tested against real Go, not proved from fmt's source: count such statements apart). THE CARD IS WHAT COUNTS. Prove the row's statement (the work); the ties are given (YtcpndfffdbogbaaDoorTie.lean); close each card by the builder's one call (the guide's Derived/Test/ToyasCard.lean, 'card_holds'). Laid BY PROGRAM, IN A SANDBOX (cutbox-door.mjs). By AI agents, Wed Nov 11 2026. No macro, syntax, notation, axiom, sorry.
-/
import Derived.Test.YtcpndfffdbogbaaDoorRows
import GoSem.ClaimSeven
namespace Go.Proofs.YtcpndfffdbogbaaDoor
namespace Rows

/-- THE TIED CARD OF 'beadrolllaw21.PoolAny'. -/
def poolAnyCard : Claim7 := { stood := { row := poolAnyRow, standIns := [], harness := (true, "1779cea10c89464d5806c3ed966157268e638b36316365dcb35cb78e8976d4d1"), looks := false }, kinds := [], alts := [], laidByText := true, laidKinds := [.data], laidTests := true, laidLooks := .later }
def PoolAnyCardSaid : Prop := Claim7.holds Tryd.pinned (.plain (OpenSpec.ofChange poolAnySpec)) poolAnyCard

/-- THE TIED CARD OF 'beadrolllaw21.PoolNames'. -/
def poolNamesCard : Claim7 := { stood := { row := poolNamesRow, standIns := [], harness := (true, "1779cea10c89464d5806c3ed966157268e638b36316365dcb35cb78e8976d4d1"), looks := false }, kinds := [], alts := [], laidByText := true, laidKinds := [.data], laidTests := true, laidLooks := .later }
def PoolNamesCardSaid : Prop := Claim7.holds Tryd.pinned (.plain (OpenSpec.ofChange poolNamesSpec)) poolNamesCard

/-- THE SECOND FORM's CARD OF 'beadrolllaw21.PoolAny'. -/
def poolAnyUptoCard : Claim7 := { stood := { row := poolAnyUptoRow, standIns := [], harness := (true, "1779cea10c89464d5806c3ed966157268e638b36316365dcb35cb78e8976d4d1"), looks := false }, kinds := [], alts := [], laidByText := true, laidKinds := [.data], laidTests := true, laidLooks := .later }
def PoolAnyUptoCardSaid : Prop := Claim7.holds Tryd.pinned (.plain (OpenSpec.upto poolAnySpec)) poolAnyUptoCard

/-- THE SECOND FORM's CARD OF 'beadrolllaw21.PoolNames'. -/
def poolNamesUptoCard : Claim7 := { stood := { row := poolNamesUptoRow, standIns := [], harness := (true, "1779cea10c89464d5806c3ed966157268e638b36316365dcb35cb78e8976d4d1"), looks := false }, kinds := [], alts := [], laidByText := true, laidKinds := [.data], laidTests := true, laidLooks := .later }
def PoolNamesUptoCardSaid : Prop := Claim7.holds Tryd.pinned (.plain (OpenSpec.upto poolNamesSpec)) poolNamesUptoCard
end Rows
end Go.Proofs.YtcpndfffdbogbaaDoor
