/-
  DERIVED. GIVEN WITH THE SEED: THE CARDS: each row of YtmfpiodcioakhaaDoorRows.lean that lists a variable, with what it lists TIED to the program's text (the seventh form; the later family's looks); each row that meets fmt, with fmt's text TOLD by the authors' own Lean function (tested against real Go, not proved from fmt's source: count such statements apart). THE CARD IS WHAT COUNTS. Prove the row's statement (the work); the ties are given (YtmfpiodcioakhaaDoorTie.lean); close each card by the builder's one call (the guide's Derived/Test/ToyasCard.lean, 'card_holds'). Laid BY PROGRAM, IN A SANDBOX (cutbox-door.mjs). By AI agents, Wed Nov 11 2026. No macro, syntax, notation, axiom, sorry.
-/
import Derived.Test.YtmfpiodcioakhaaDoorRows
import GoSem.ClaimSeven
namespace Go.Proofs.YtmfpiodcioakhaaDoor
namespace Rows

/-- THE TIED CARD OF 'beadrolllaw05.PairsRoot'. -/
def pairsRootCard : Claim7 := { stood := { row := pairsRootRow, standIns := [], harness := (true, "c565ef6aa352ac26ef29fdd435089709efdc96bdab292d8eccddd3bc6eb57ae5"), looks := false }, kinds := [], alts := [], laidByText := true, laidKinds := [.data], laidTests := true, laidLooks := .later }
def PairsRootCardSaid : Prop := Claim7.holds Tryd.pinned (.plain (OpenSpec.ofChange pairsRootSpec)) pairsRootCard

/-- THE TIED CARD OF 'beadrolllaw05.PairsWays'. -/
def pairsWaysCard : Claim7 := { stood := { row := pairsWaysRow, standIns := [], harness := (true, "c565ef6aa352ac26ef29fdd435089709efdc96bdab292d8eccddd3bc6eb57ae5"), looks := false }, kinds := [], alts := [], laidByText := true, laidKinds := [.data], laidTests := true, laidLooks := .later }
def PairsWaysCardSaid : Prop := Claim7.holds Tryd.pinned (.plain (OpenSpec.ofChange pairsWaysSpec)) pairsWaysCard

/-- THE TIED CARD OF 'beadrolllaw05.PairsNames'. -/
def pairsNamesCard : Claim7 := { stood := { row := pairsNamesRow, standIns := [], harness := (true, "c565ef6aa352ac26ef29fdd435089709efdc96bdab292d8eccddd3bc6eb57ae5"), looks := false }, kinds := [], alts := [], laidByText := true, laidKinds := [.data], laidTests := true, laidLooks := .later }
def PairsNamesCardSaid : Prop := Claim7.holds Tryd.pinned (.plain (OpenSpec.ofChange pairsNamesSpec)) pairsNamesCard

/-- THE TIED CARD OF 'beadrolllaw08.VerifyTells'. -/
def verifyTellsCard : Claim7 := { stood := { row := verifyTellsRow, standIns := [], harness := (true, "c565ef6aa352ac26ef29fdd435089709efdc96bdab292d8eccddd3bc6eb57ae5"), looks := false }, kinds := [], alts := [], laidByText := true, laidKinds := [.data], laidTests := true, laidLooks := .later }
def VerifyTellsCardSaid : Prop := Claim7.holds Tryd.pinned (.plain (OpenSpec.ofChange verifyTellsSpec)) verifyTellsCard

/-- THE TIED CARD OF 'beadrolllaw08.VerifyNames'. -/
def verifyNamesCard : Claim7 := { stood := { row := verifyNamesRow, standIns := [], harness := (true, "c565ef6aa352ac26ef29fdd435089709efdc96bdab292d8eccddd3bc6eb57ae5"), looks := false }, kinds := [], alts := [], laidByText := true, laidKinds := [.data], laidTests := true, laidLooks := .later }
def VerifyNamesCardSaid : Prop := Claim7.holds Tryd.pinned (.plain (OpenSpec.ofChange verifyNamesSpec)) verifyNamesCard

/-- THE TIED CARD OF 'beadrolllaw08.VerifyChain'. -/
def verifyChainCard : Claim7 := { stood := { row := verifyChainRow, standIns := [], harness := (true, "c565ef6aa352ac26ef29fdd435089709efdc96bdab292d8eccddd3bc6eb57ae5"), looks := false }, kinds := [], alts := [], laidByText := true, laidKinds := [.data], laidTests := true, laidLooks := .later }
def VerifyChainCardSaid : Prop := Claim7.holds Tryd.pinned (.plain (OpenSpec.ofChange verifyChainSpec)) verifyChainCard

/-- THE TIED CARD OF 'beadrolllaw19.QueueRuns'. -/
def queueRunsCard : Claim7 := { stood := { row := queueRunsRow, standIns := [], harness := (true, "c565ef6aa352ac26ef29fdd435089709efdc96bdab292d8eccddd3bc6eb57ae5"), looks := false }, kinds := [], alts := [], laidByText := true, laidKinds := [.data], laidTests := true, laidLooks := .later }
def QueueRunsCardSaid : Prop := Claim7.holds Tryd.pinned (.plain (OpenSpec.ofChange queueRunsSpec)) queueRunsCard

/-- THE TIED CARD OF 'beadrolllaw19.QueueNames'. -/
def queueNamesCard : Claim7 := { stood := { row := queueNamesRow, standIns := [], harness := (true, "c565ef6aa352ac26ef29fdd435089709efdc96bdab292d8eccddd3bc6eb57ae5"), looks := false }, kinds := [], alts := [], laidByText := true, laidKinds := [.data], laidTests := true, laidLooks := .later }
def QueueNamesCardSaid : Prop := Claim7.holds Tryd.pinned (.plain (OpenSpec.ofChange queueNamesSpec)) queueNamesCard

/-- THE TIED CARD OF 'beadrolllaw19.QueueBest'. -/
def queueBestCard : Claim7 := { stood := { row := queueBestRow, standIns := [], harness := (true, "c565ef6aa352ac26ef29fdd435089709efdc96bdab292d8eccddd3bc6eb57ae5"), looks := false }, kinds := [], alts := [], laidByText := true, laidKinds := [.data], laidTests := true, laidLooks := .later }
def QueueBestCardSaid : Prop := Claim7.holds Tryd.pinned (.plain (OpenSpec.ofChange queueBestSpec)) queueBestCard

/-- THE TIED CARD OF 'beadrolllaw19.QueueDoes'. -/
def queueDoesCard : Claim7 := { stood := { row := queueDoesRow, standIns := [], harness := (true, "c565ef6aa352ac26ef29fdd435089709efdc96bdab292d8eccddd3bc6eb57ae5"), looks := false }, kinds := [], alts := [], laidByText := true, laidKinds := [.data], laidTests := true, laidLooks := .later }
def QueueDoesCardSaid : Prop := Claim7.holds Tryd.pinned (.plain (OpenSpec.ofChange queueDoesSpec)) queueDoesCard

/-- THE SECOND FORM's CARD OF 'beadrolllaw05.PairsRoot'. -/
def pairsRootUptoCard : Claim7 := { stood := { row := pairsRootUptoRow, standIns := [], harness := (true, "c565ef6aa352ac26ef29fdd435089709efdc96bdab292d8eccddd3bc6eb57ae5"), looks := false }, kinds := [], alts := [], laidByText := true, laidKinds := [.data], laidTests := true, laidLooks := .later }
def PairsRootUptoCardSaid : Prop := Claim7.holds Tryd.pinned (.plain (OpenSpec.upto pairsRootSpec)) pairsRootUptoCard

/-- THE SECOND FORM's CARD OF 'beadrolllaw05.PairsWays'. -/
def pairsWaysUptoCard : Claim7 := { stood := { row := pairsWaysUptoRow, standIns := [], harness := (true, "c565ef6aa352ac26ef29fdd435089709efdc96bdab292d8eccddd3bc6eb57ae5"), looks := false }, kinds := [], alts := [], laidByText := true, laidKinds := [.data], laidTests := true, laidLooks := .later }
def PairsWaysUptoCardSaid : Prop := Claim7.holds Tryd.pinned (.plain (OpenSpec.upto pairsWaysSpec)) pairsWaysUptoCard

/-- THE SECOND FORM's CARD OF 'beadrolllaw05.PairsNames'. -/
def pairsNamesUptoCard : Claim7 := { stood := { row := pairsNamesUptoRow, standIns := [], harness := (true, "c565ef6aa352ac26ef29fdd435089709efdc96bdab292d8eccddd3bc6eb57ae5"), looks := false }, kinds := [], alts := [], laidByText := true, laidKinds := [.data], laidTests := true, laidLooks := .later }
def PairsNamesUptoCardSaid : Prop := Claim7.holds Tryd.pinned (.plain (OpenSpec.upto pairsNamesSpec)) pairsNamesUptoCard

/-- THE SECOND FORM's CARD OF 'beadrolllaw08.VerifyTells'. -/
def verifyTellsUptoCard : Claim7 := { stood := { row := verifyTellsUptoRow, standIns := [], harness := (true, "c565ef6aa352ac26ef29fdd435089709efdc96bdab292d8eccddd3bc6eb57ae5"), looks := false }, kinds := [], alts := [], laidByText := true, laidKinds := [.data], laidTests := true, laidLooks := .later }
def VerifyTellsUptoCardSaid : Prop := Claim7.holds Tryd.pinned (.plain (OpenSpec.upto verifyTellsSpec)) verifyTellsUptoCard

/-- THE SECOND FORM's CARD OF 'beadrolllaw08.VerifyNames'. -/
def verifyNamesUptoCard : Claim7 := { stood := { row := verifyNamesUptoRow, standIns := [], harness := (true, "c565ef6aa352ac26ef29fdd435089709efdc96bdab292d8eccddd3bc6eb57ae5"), looks := false }, kinds := [], alts := [], laidByText := true, laidKinds := [.data], laidTests := true, laidLooks := .later }
def VerifyNamesUptoCardSaid : Prop := Claim7.holds Tryd.pinned (.plain (OpenSpec.upto verifyNamesSpec)) verifyNamesUptoCard

/-- THE SECOND FORM's CARD OF 'beadrolllaw08.VerifyChain'. -/
def verifyChainUptoCard : Claim7 := { stood := { row := verifyChainUptoRow, standIns := [], harness := (true, "c565ef6aa352ac26ef29fdd435089709efdc96bdab292d8eccddd3bc6eb57ae5"), looks := false }, kinds := [], alts := [], laidByText := true, laidKinds := [.data], laidTests := true, laidLooks := .later }
def VerifyChainUptoCardSaid : Prop := Claim7.holds Tryd.pinned (.plain (OpenSpec.upto verifyChainSpec)) verifyChainUptoCard

/-- THE SECOND FORM's CARD OF 'beadrolllaw19.QueueRuns'. -/
def queueRunsUptoCard : Claim7 := { stood := { row := queueRunsUptoRow, standIns := [], harness := (true, "c565ef6aa352ac26ef29fdd435089709efdc96bdab292d8eccddd3bc6eb57ae5"), looks := false }, kinds := [], alts := [], laidByText := true, laidKinds := [.data], laidTests := true, laidLooks := .later }
def QueueRunsUptoCardSaid : Prop := Claim7.holds Tryd.pinned (.plain (OpenSpec.upto queueRunsSpec)) queueRunsUptoCard

/-- THE SECOND FORM's CARD OF 'beadrolllaw19.QueueNames'. -/
def queueNamesUptoCard : Claim7 := { stood := { row := queueNamesUptoRow, standIns := [], harness := (true, "c565ef6aa352ac26ef29fdd435089709efdc96bdab292d8eccddd3bc6eb57ae5"), looks := false }, kinds := [], alts := [], laidByText := true, laidKinds := [.data], laidTests := true, laidLooks := .later }
def QueueNamesUptoCardSaid : Prop := Claim7.holds Tryd.pinned (.plain (OpenSpec.upto queueNamesSpec)) queueNamesUptoCard

/-- THE SECOND FORM's CARD OF 'beadrolllaw19.QueueBest'. -/
def queueBestUptoCard : Claim7 := { stood := { row := queueBestUptoRow, standIns := [], harness := (true, "c565ef6aa352ac26ef29fdd435089709efdc96bdab292d8eccddd3bc6eb57ae5"), looks := false }, kinds := [], alts := [], laidByText := true, laidKinds := [.data], laidTests := true, laidLooks := .later }
def QueueBestUptoCardSaid : Prop := Claim7.holds Tryd.pinned (.plain (OpenSpec.upto queueBestSpec)) queueBestUptoCard

/-- THE SECOND FORM's CARD OF 'beadrolllaw19.QueueDoes'. -/
def queueDoesUptoCard : Claim7 := { stood := { row := queueDoesUptoRow, standIns := [], harness := (true, "c565ef6aa352ac26ef29fdd435089709efdc96bdab292d8eccddd3bc6eb57ae5"), looks := false }, kinds := [], alts := [], laidByText := true, laidKinds := [.data], laidTests := true, laidLooks := .later }
def QueueDoesUptoCardSaid : Prop := Claim7.holds Tryd.pinned (.plain (OpenSpec.upto queueDoesSpec)) queueDoesUptoCard
end Rows
end Go.Proofs.YtmfpiodcioakhaaDoor
