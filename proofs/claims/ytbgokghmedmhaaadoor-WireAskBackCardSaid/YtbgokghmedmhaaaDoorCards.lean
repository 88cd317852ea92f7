/-
  DERIVED. GIVEN WITH THE SEED: THE CARDS: each row of YtbgokghmedmhaaaDoorRows.lean that lists a variable, with what it lists TIED to the program's text (the seventh form; the later family's looks); each row that meets fmt, with fmt's text TOLD by the authors' own Lean function (tested against real Go, not proved from fmt's source: count such statements apart). THE CARD IS WHAT COUNTS. Prove the row's statement (the work); the ties are given (YtbgokghmedmhaaaDoorTie.lean); close each card by the builder's one call (the guide's Derived/Test/ToyasCard.lean, 'card_holds'). Laid BY PROGRAM, IN A SANDBOX (cutbox-door.mjs). By AI agents, Wed Nov 11 2026. No macro, syntax, notation, axiom, sorry.
-/
import Derived.Test.YtbgokghmedmhaaaDoorRows
import GoSem.ClaimSeven
namespace Go.Proofs.YtbgokghmedmhaaaDoor
namespace Rows

/-- THE TIED CARD OF 'beadrolllaw09.ClashShows'. -/
def clashShowsCard : Claim7 := { stood := { row := clashShowsRow, standIns := [], harness := (true, "45618257c5ddac1856a1b25908329dccc3b4c8ec3c2c69c3c6ead94c7ee46167"), looks := true }, kinds := [], alts := [], laidByText := true, laidKinds := [.data], laidTests := true, laidLooks := .later }
def ClashShowsCardSaid : Prop := Claim7.holds Tryd.pinned (.plain (OpenSpec.ofChange clashShowsSpec)) clashShowsCard

/-- THE TIED CARD OF 'beadrolllaw09.ClashNames'. -/
def clashNamesCard : Claim7 := { stood := { row := clashNamesRow, standIns := [], harness := (true, "45618257c5ddac1856a1b25908329dccc3b4c8ec3c2c69c3c6ead94c7ee46167"), looks := true }, kinds := [], alts := [], laidByText := true, laidKinds := [.data], laidTests := true, laidLooks := .later }
def ClashNamesCardSaid : Prop := Claim7.holds Tryd.pinned (.plain (OpenSpec.ofChange clashNamesSpec)) clashNamesCard

/-- THE TIED CARD OF 'beadrolllaw21.PoolTells'. -/
def poolTellsCard : Claim7 := { stood := { row := poolTellsRow, standIns := [], harness := (true, "45618257c5ddac1856a1b25908329dccc3b4c8ec3c2c69c3c6ead94c7ee46167"), looks := true }, kinds := [], alts := [], laidByText := true, laidKinds := [.data], laidTests := true, laidLooks := .later }
def PoolTellsCardSaid : Prop := Claim7.holds Tryd.pinned (.plain (OpenSpec.ofChange poolTellsSpec)) poolTellsCard

/-- THE TIED CARD OF 'beadrolllaw22.WireAsks'. -/
def wireAsksCard : Claim7 := { stood := { row := wireAsksRow, standIns := [], harness := (true, "45618257c5ddac1856a1b25908329dccc3b4c8ec3c2c69c3c6ead94c7ee46167"), looks := true }, kinds := [], alts := [], laidByText := true, laidKinds := [.data], laidTests := true, laidLooks := .later }
def WireAsksCardSaid : Prop := Claim7.holds Tryd.pinned (.plain (OpenSpec.ofChange wireAsksSpec)) wireAsksCard

/-- THE TIED CARD OF 'beadrolllaw22.WireNames'. -/
def wireNamesCard : Claim7 := { stood := { row := wireNamesRow, standIns := [], harness := (true, "45618257c5ddac1856a1b25908329dccc3b4c8ec3c2c69c3c6ead94c7ee46167"), looks := true }, kinds := [], alts := [], laidByText := true, laidKinds := [.data], laidTests := true, laidLooks := .later }
def WireNamesCardSaid : Prop := Claim7.holds Tryd.pinned (.plain (OpenSpec.ofChange wireNamesSpec)) wireNamesCard

/-- THE TIED CARD OF 'beadrolllaw22.WireAskBack'. -/
def wireAskBackCard : Claim7 := { stood := { row := wireAskBackRow, standIns := [], harness := (true, "45618257c5ddac1856a1b25908329dccc3b4c8ec3c2c69c3c6ead94c7ee46167"), looks := true }, kinds := [], alts := [], laidByText := true, laidKinds := [.data], laidTests := true, laidLooks := .later }
def WireAskBackCardSaid : Prop := Claim7.holds Tryd.pinned (.plain (OpenSpec.ofChange wireAskBackSpec)) wireAskBackCard

/-- THE TIED CARD OF 'beadrolllaw22.WireReplyBack'. -/
def wireReplyBackCard : Claim7 := { stood := { row := wireReplyBackRow, standIns := [], harness := (true, "45618257c5ddac1856a1b25908329dccc3b4c8ec3c2c69c3c6ead94c7ee46167"), looks := true }, kinds := [], alts := [], laidByText := true, laidKinds := [.data], laidTests := true, laidLooks := .later }
def WireReplyBackCardSaid : Prop := Claim7.holds Tryd.pinned (.plain (OpenSpec.ofChange wireReplyBackSpec)) wireReplyBackCard

/-- THE SECOND FORM's CARD OF 'beadrolllaw09.ClashShows'. -/
def clashShowsUptoCard : Claim7 := { stood := { row := clashShowsUptoRow, standIns := [], harness := (true, "45618257c5ddac1856a1b25908329dccc3b4c8ec3c2c69c3c6ead94c7ee46167"), looks := true }, kinds := [], alts := [], laidByText := true, laidKinds := [.data], laidTests := true, laidLooks := .later }
def ClashShowsUptoCardSaid : Prop := Claim7.holds Tryd.pinned (.plain (OpenSpec.upto clashShowsSpec)) clashShowsUptoCard

/-- THE SECOND FORM's CARD OF 'beadrolllaw09.ClashNames'. -/
def clashNamesUptoCard : Claim7 := { stood := { row := clashNamesUptoRow, standIns := [], harness := (true, "45618257c5ddac1856a1b25908329dccc3b4c8ec3c2c69c3c6ead94c7ee46167"), looks := true }, kinds := [], alts := [], laidByText := true, laidKinds := [.data], laidTests := true, laidLooks := .later }
def ClashNamesUptoCardSaid : Prop := Claim7.holds Tryd.pinned (.plain (OpenSpec.upto clashNamesSpec)) clashNamesUptoCard

/-- THE SECOND FORM's CARD OF 'beadrolllaw21.PoolTells'. -/
def poolTellsUptoCard : Claim7 := { stood := { row := poolTellsUptoRow, standIns := [], harness := (true, "45618257c5ddac1856a1b25908329dccc3b4c8ec3c2c69c3c6ead94c7ee46167"), looks := true }, kinds := [], alts := [], laidByText := true, laidKinds := [.data], laidTests := true, laidLooks := .later }
def PoolTellsUptoCardSaid : Prop := Claim7.holds Tryd.pinned (.plain (OpenSpec.upto poolTellsSpec)) poolTellsUptoCard

/-- THE SECOND FORM's CARD OF 'beadrolllaw22.WireAsks'. -/
def wireAsksUptoCard : Claim7 := { stood := { row := wireAsksUptoRow, standIns := [], harness := (true, "45618257c5ddac1856a1b25908329dccc3b4c8ec3c2c69c3c6ead94c7ee46167"), looks := true }, kinds := [], alts := [], laidByText := true, laidKinds := [.data], laidTests := true, laidLooks := .later }
def WireAsksUptoCardSaid : Prop := Claim7.holds Tryd.pinned (.plain (OpenSpec.upto wireAsksSpec)) wireAsksUptoCard

/-- THE SECOND FORM's CARD OF 'beadrolllaw22.WireNames'. -/
def wireNamesUptoCard : Claim7 := { stood := { row := wireNamesUptoRow, standIns := [], harness := (true, "45618257c5ddac1856a1b25908329dccc3b4c8ec3c2c69c3c6ead94c7ee46167"), looks := true }, kinds := [], alts := [], laidByText := true, laidKinds := [.data], laidTests := true, laidLooks := .later }
def WireNamesUptoCardSaid : Prop := Claim7.holds Tryd.pinned (.plain (OpenSpec.upto wireNamesSpec)) wireNamesUptoCard

/-- THE SECOND FORM's CARD OF 'beadrolllaw22.WireAskBack'. -/
def wireAskBackUptoCard : Claim7 := { stood := { row := wireAskBackUptoRow, standIns := [], harness := (true, "45618257c5ddac1856a1b25908329dccc3b4c8ec3c2c69c3c6ead94c7ee46167"), looks := true }, kinds := [], alts := [], laidByText := true, laidKinds := [.data], laidTests := true, laidLooks := .later }
def WireAskBackUptoCardSaid : Prop := Claim7.holds Tryd.pinned (.plain (OpenSpec.upto wireAskBackSpec)) wireAskBackUptoCard

/-- THE SECOND FORM's CARD OF 'beadrolllaw22.WireReplyBack'. -/
def wireReplyBackUptoCard : Claim7 := { stood := { row := wireReplyBackUptoRow, standIns := [], harness := (true, "45618257c5ddac1856a1b25908329dccc3b4c8ec3c2c69c3c6ead94c7ee46167"), looks := true }, kinds := [], alts := [], laidByText := true, laidKinds := [.data], laidTests := true, laidLooks := .later }
def WireReplyBackUptoCardSaid : Prop := Claim7.holds Tryd.pinned (.plain (OpenSpec.upto wireReplyBackSpec)) wireReplyBackUptoCard
end Rows
end Go.Proofs.YtbgokghmedmhaaaDoor
