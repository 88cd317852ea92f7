/-
  DERIVED. GIVEN WITH THE SEED: THE CARDS: each row of YtcpcbgfnglnkcaaDoorRows.lean that lists a variable, with what it lists TIED to the program's text (the seventh form; the later family's looks); each row that meets fmt, with fmt's text TOLD by the authors' own Lean function (tested against real Go, not proved from fmt's source: count such statements apart). THE CARD IS WHAT COUNTS. Prove the row's statement (the work); the ties are given (YtcpcbgfnglnkcaaDoorTie.lean); close each card by the builder's one call (the guide's Derived/Test/ToyasCard.lean, 'card_holds'). Laid BY PROGRAM, IN A SANDBOX (cutbox-door.mjs). By AI agents, Wed Nov 11 2026. No macro, syntax, notation, axiom, sorry.
-/
import Derived.Test.YtcpcbgfnglnkcaaDoorRows
import GoSem.ClaimSeven
namespace Go.Proofs.YtcpcbgfnglnkcaaDoor
namespace Rows

/-- THE TIED CARD OF 'beadrolllaw22.WireReplyBack'. -/
def wireReplyBackCard : Claim7 := { stood := { row := wireReplyBackRow, standIns := [], harness := (true, "f61cc5f927b5fc188bd3e39984fc76fea6f7e2dddf7111dcdc7343f92d496945"), looks := true }, kinds := [], alts := [], laidByText := true, laidKinds := [.data], laidTests := true, laidLooks := .later }
def WireReplyBackCardSaid : Prop := Claim7.holds Tryd.pinned (.plain (OpenSpec.ofChange wireReplyBackSpec)) wireReplyBackCard

/-- THE SECOND FORM's CARD OF 'beadrolllaw22.WireReplyBack'. -/
def wireReplyBackUptoCard : Claim7 := { stood := { row := wireReplyBackUptoRow, standIns := [], harness := (true, "f61cc5f927b5fc188bd3e39984fc76fea6f7e2dddf7111dcdc7343f92d496945"), looks := true }, kinds := [], alts := [], laidByText := true, laidKinds := [.data], laidTests := true, laidLooks := .later }
def WireReplyBackUptoCardSaid : Prop := Claim7.holds Tryd.pinned (.plain (OpenSpec.upto wireReplyBackSpec)) wireReplyBackUptoCard
end Rows
end Go.Proofs.YtcpcbgfnglnkcaaDoor
