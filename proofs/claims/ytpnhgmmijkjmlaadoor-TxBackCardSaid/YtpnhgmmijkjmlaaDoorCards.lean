/-
  DERIVED. GIVEN WITH THE SEED: THE CARDS: each row of YtpnhgmmijkjmlaaDoorRows.lean that lists a variable, with what it lists TIED to the program's text (the seventh form; the later family's looks); each row that meets fmt, with fmt's text TOLD by the authors' own Lean function (tested against real Go, not proved from fmt's source: count such statements apart). THE CARD IS WHAT COUNTS. Prove the row's statement (the work); the ties are given (YtpnhgmmijkjmlaaDoorTie.lean); close each card by the builder's one call (the guide's Derived/Test/ToyasCard.lean, 'card_holds'). Laid BY PROGRAM, IN A SANDBOX (cutbox-door.mjs). By AI agents, Wed Nov 11 2026. No macro, syntax, notation, axiom, sorry.
-/
import Derived.Test.YtpnhgmmijkjmlaaDoorRows
import GoSem.ClaimSeven
namespace Go.Proofs.YtpnhgmmijkjmlaaDoor
namespace Rows

/-- THE TIED CARD OF 'beadrolllaw14.HeaderOne'. -/
def headerOneCard : Claim7 := { stood := { row := headerOneRow, standIns := [], harness := (true, "b466c783f5a459ee27a20728e6641d21e6426a8238969ea3d11d6081dde3cc6b"), looks := false }, kinds := [], alts := [], laidByText := true, laidKinds := [.data], laidTests := true, laidLooks := .later }
def HeaderOneCardSaid : Prop := Claim7.holds Tryd.pinned (.plain (OpenSpec.ofChange headerOneSpec)) headerOneCard

/-- THE TIED CARD OF 'beadrolllaw14.HeaderNames'. -/
def headerNamesCard : Claim7 := { stood := { row := headerNamesRow, standIns := [], harness := (true, "b466c783f5a459ee27a20728e6641d21e6426a8238969ea3d11d6081dde3cc6b"), looks := false }, kinds := [], alts := [], laidByText := true, laidKinds := [.data], laidTests := true, laidLooks := .later }
def HeaderNamesCardSaid : Prop := Claim7.holds Tryd.pinned (.plain (OpenSpec.ofChange headerNamesSpec)) headerNamesCard

/-- THE TIED CARD OF 'beadrolllaw12.ReceiptNames'. -/
def receiptNamesCard : Claim7 := { stood := { row := receiptNamesRow, standIns := [], harness := (true, "b466c783f5a459ee27a20728e6641d21e6426a8238969ea3d11d6081dde3cc6b"), looks := false }, kinds := [], alts := [], laidByText := true, laidKinds := [.data], laidTests := true, laidLooks := .later }
def ReceiptNamesCardSaid : Prop := Claim7.holds Tryd.pinned (.plain (OpenSpec.ofChange receiptNamesSpec)) receiptNamesCard

/-- THE TIED CARD OF 'beadrolllaw12.ReceiptTells'. -/
def receiptTellsCard : Claim7 := { stood := { row := receiptTellsRow, standIns := [], harness := (true, "b466c783f5a459ee27a20728e6641d21e6426a8238969ea3d11d6081dde3cc6b"), looks := false }, kinds := [], alts := [], laidByText := true, laidKinds := [.data], laidTests := true, laidLooks := .later }
def ReceiptTellsCardSaid : Prop := Claim7.holds Tryd.pinned (.plain (OpenSpec.ofChange receiptTellsSpec)) receiptTellsCard

/-- THE TIED CARD OF 'beadrolllaw11.TxReads'. -/
def txReadsCard : Claim7 := { stood := { row := txReadsRow, standIns := [], harness := (true, "b466c783f5a459ee27a20728e6641d21e6426a8238969ea3d11d6081dde3cc6b"), looks := false }, kinds := [], alts := [], laidByText := true, laidKinds := [.data], laidTests := true, laidLooks := .later }
def TxReadsCardSaid : Prop := Claim7.holds Tryd.pinned (.plain (OpenSpec.ofChange txReadsSpec)) txReadsCard

/-- THE TIED CARD OF 'beadrolllaw11.TxBack'. -/
def txBackCard : Claim7 := { stood := { row := txBackRow, standIns := [], harness := (true, "b466c783f5a459ee27a20728e6641d21e6426a8238969ea3d11d6081dde3cc6b"), looks := false }, kinds := [], alts := [], laidByText := true, laidKinds := [.data], laidTests := true, laidLooks := .later }
def TxBackCardSaid : Prop := Claim7.holds Tryd.pinned (.plain (OpenSpec.ofChange txBackSpec)) txBackCard

/-- THE TIED CARD OF 'beadrolllaw11.TxNames'. -/
def txNamesCard : Claim7 := { stood := { row := txNamesRow, standIns := [], harness := (true, "b466c783f5a459ee27a20728e6641d21e6426a8238969ea3d11d6081dde3cc6b"), looks := false }, kinds := [], alts := [], laidByText := true, laidKinds := [.data], laidTests := true, laidLooks := .later }
def TxNamesCardSaid : Prop := Claim7.holds Tryd.pinned (.plain (OpenSpec.ofChange txNamesSpec)) txNamesCard

/-- THE TIED CARD OF 'beadrolllaw05.PairsRoot'. -/
def pairsRootCard : Claim7 := { stood := { row := pairsRootRow, standIns := [], harness := (true, "b466c783f5a459ee27a20728e6641d21e6426a8238969ea3d11d6081dde3cc6b"), looks := false }, kinds := [], alts := [], laidByText := true, laidKinds := [.data], laidTests := true, laidLooks := .later }
def PairsRootCardSaid : Prop := Claim7.holds Tryd.pinned (.plain (OpenSpec.ofChange pairsRootSpec)) pairsRootCard

/-- THE SECOND FORM's CARD OF 'beadrolllaw14.HeaderOne'. -/
def headerOneUptoCard : Claim7 := { stood := { row := headerOneUptoRow, standIns := [], harness := (true, "b466c783f5a459ee27a20728e6641d21e6426a8238969ea3d11d6081dde3cc6b"), looks := false }, kinds := [], alts := [], laidByText := true, laidKinds := [.data], laidTests := true, laidLooks := .later }
def HeaderOneUptoCardSaid : Prop := Claim7.holds Tryd.pinned (.plain (OpenSpec.upto headerOneSpec)) headerOneUptoCard

/-- THE SECOND FORM's CARD OF 'beadrolllaw14.HeaderNames'. -/
def headerNamesUptoCard : Claim7 := { stood := { row := headerNamesUptoRow, standIns := [], harness := (true, "b466c783f5a459ee27a20728e6641d21e6426a8238969ea3d11d6081dde3cc6b"), looks := false }, kinds := [], alts := [], laidByText := true, laidKinds := [.data], laidTests := true, laidLooks := .later }
def HeaderNamesUptoCardSaid : Prop := Claim7.holds Tryd.pinned (.plain (OpenSpec.upto headerNamesSpec)) headerNamesUptoCard

/-- THE SECOND FORM's CARD OF 'beadrolllaw12.ReceiptNames'. -/
def receiptNamesUptoCard : Claim7 := { stood := { row := receiptNamesUptoRow, standIns := [], harness := (true, "b466c783f5a459ee27a20728e6641d21e6426a8238969ea3d11d6081dde3cc6b"), looks := false }, kinds := [], alts := [], laidByText := true, laidKinds := [.data], laidTests := true, laidLooks := .later }
def ReceiptNamesUptoCardSaid : Prop := Claim7.holds Tryd.pinned (.plain (OpenSpec.upto receiptNamesSpec)) receiptNamesUptoCard

/-- THE SECOND FORM's CARD OF 'beadrolllaw12.ReceiptTells'. -/
def receiptTellsUptoCard : Claim7 := { stood := { row := receiptTellsUptoRow, standIns := [], harness := (true, "b466c783f5a459ee27a20728e6641d21e6426a8238969ea3d11d6081dde3cc6b"), looks := false }, kinds := [], alts := [], laidByText := true, laidKinds := [.data], laidTests := true, laidLooks := .later }
def ReceiptTellsUptoCardSaid : Prop := Claim7.holds Tryd.pinned (.plain (OpenSpec.upto receiptTellsSpec)) receiptTellsUptoCard

/-- THE SECOND FORM's CARD OF 'beadrolllaw11.TxReads'. -/
def txReadsUptoCard : Claim7 := { stood := { row := txReadsUptoRow, standIns := [], harness := (true, "b466c783f5a459ee27a20728e6641d21e6426a8238969ea3d11d6081dde3cc6b"), looks := false }, kinds := [], alts := [], laidByText := true, laidKinds := [.data], laidTests := true, laidLooks := .later }
def TxReadsUptoCardSaid : Prop := Claim7.holds Tryd.pinned (.plain (OpenSpec.upto txReadsSpec)) txReadsUptoCard

/-- THE SECOND FORM's CARD OF 'beadrolllaw11.TxBack'. -/
def txBackUptoCard : Claim7 := { stood := { row := txBackUptoRow, standIns := [], harness := (true, "b466c783f5a459ee27a20728e6641d21e6426a8238969ea3d11d6081dde3cc6b"), looks := false }, kinds := [], alts := [], laidByText := true, laidKinds := [.data], laidTests := true, laidLooks := .later }
def TxBackUptoCardSaid : Prop := Claim7.holds Tryd.pinned (.plain (OpenSpec.upto txBackSpec)) txBackUptoCard

/-- THE SECOND FORM's CARD OF 'beadrolllaw11.TxNames'. -/
def txNamesUptoCard : Claim7 := { stood := { row := txNamesUptoRow, standIns := [], harness := (true, "b466c783f5a459ee27a20728e6641d21e6426a8238969ea3d11d6081dde3cc6b"), looks := false }, kinds := [], alts := [], laidByText := true, laidKinds := [.data], laidTests := true, laidLooks := .later }
def TxNamesUptoCardSaid : Prop := Claim7.holds Tryd.pinned (.plain (OpenSpec.upto txNamesSpec)) txNamesUptoCard

/-- THE SECOND FORM's CARD OF 'beadrolllaw05.PairsRoot'. -/
def pairsRootUptoCard : Claim7 := { stood := { row := pairsRootUptoRow, standIns := [], harness := (true, "b466c783f5a459ee27a20728e6641d21e6426a8238969ea3d11d6081dde3cc6b"), looks := false }, kinds := [], alts := [], laidByText := true, laidKinds := [.data], laidTests := true, laidLooks := .later }
def PairsRootUptoCardSaid : Prop := Claim7.holds Tryd.pinned (.plain (OpenSpec.upto pairsRootSpec)) pairsRootUptoCard
end Rows
end Go.Proofs.YtpnhgmmijkjmlaaDoor
