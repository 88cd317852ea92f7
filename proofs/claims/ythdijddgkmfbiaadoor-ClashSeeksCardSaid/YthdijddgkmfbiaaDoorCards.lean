/-
  DERIVED. GIVEN WITH THE SEED: THE CARDS: each row of YthdijddgkmfbiaaDoorRows.lean that lists a variable, with what it lists TIED to the program's text (the seventh form; the later family's looks); each row that meets fmt, with fmt's text TOLD by the authors' own Lean function (tested against real Go, not proved from fmt's source: count such statements apart). THE CARD IS WHAT COUNTS. Prove the row's statement (the work); the ties are given (YthdijddgkmfbiaaDoorTie.lean); close each card by the builder's one call (the guide's Derived/Test/ToyasCard.lean, 'card_holds'). Laid BY PROGRAM, IN A SANDBOX (cutbox-door.mjs). By AI agents, Wed Nov 11 2026. No macro, syntax, notation, axiom, sorry.
-/
import Derived.Test.YthdijddgkmfbiaaDoorRows
import GoSem.ClaimSeven
namespace Go.Proofs.YthdijddgkmfbiaaDoor
namespace Rows

/-- THE TIED CARD OF 'beadrolllaw09.ClashSeeks'. -/
def clashSeeksCard : Claim7 := { stood := { row := clashSeeksRow, standIns := [], harness := (true, "025c5bbb6d241b6572b793b27b940095c53fc68118c43cddcaf02422ac99debe"), looks := false }, kinds := [], alts := [], laidByText := true, laidKinds := [.data], laidTests := true, laidLooks := .later }
def ClashSeeksCardSaid : Prop := Claim7.holds Tryd.pinned (.plain (OpenSpec.ofChange clashSeeksSpec)) clashSeeksCard

/-- THE SECOND FORM's CARD OF 'beadrolllaw09.ClashSeeks'. -/
def clashSeeksUptoCard : Claim7 := { stood := { row := clashSeeksUptoRow, standIns := [], harness := (true, "025c5bbb6d241b6572b793b27b940095c53fc68118c43cddcaf02422ac99debe"), looks := false }, kinds := [], alts := [], laidByText := true, laidKinds := [.data], laidTests := true, laidLooks := .later }
def ClashSeeksUptoCardSaid : Prop := Claim7.holds Tryd.pinned (.plain (OpenSpec.upto clashSeeksSpec)) clashSeeksUptoCard
end Rows
end Go.Proofs.YthdijddgkmfbiaaDoor
