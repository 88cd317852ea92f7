/-
  DERIVED. GIVEN WITH THE SEED: THE CARDS: each row of YtjbjidopjhllbaaDoorRows.lean that lists a variable, with what it lists TIED to the program's text (the seventh form; the later family's looks); each row that meets fmt, with fmt's text TOLD by the authors' own Lean function (tested against real Go, not proved from fmt's source: count such statements apart). THE CARD IS WHAT COUNTS. Prove the row's statement (the work); the ties are given (YtjbjidopjhllbaaDoorTie.lean); close each card by the builder's one call (the guide's Derived/Test/ToyasCard.lean, 'card_holds'). Laid BY PROGRAM, IN A SANDBOX (cutbox-door.mjs). By AI agents, Wed Nov 11 2026. No macro, syntax, notation, axiom, sorry.
-/
import Derived.Test.YtjbjidopjhllbaaDoorRows
import GoSem.ClaimSeven
namespace Go.Proofs.YtjbjidopjhllbaaDoor
namespace Rows

/-- THE TIED CARD OF 'beadrolllaw03.TagTells'. -/
def tagTellsCard : Claim7 := { stood := { row := tagTellsRow, standIns := [], harness := (true, "b22e3e2f4c037fb697305e453ea296469a97aeccbc1b432806424bde7127c108"), looks := false }, kinds := [], alts := [], laidByText := true, laidKinds := [.data], laidTests := true, laidLooks := .later }
def TagTellsCardSaid : Prop := Claim7.holds Tryd.pinned (.plain (OpenSpec.ofChange tagTellsSpec)) tagTellsCard

/-- THE TIED CARD OF 'beadrolllaw11.TxSigns'. -/
def txSignsCard : Claim7 := { stood := { row := txSignsRow, standIns := [], harness := (true, "b22e3e2f4c037fb697305e453ea296469a97aeccbc1b432806424bde7127c108"), looks := false }, kinds := [], alts := [], laidByText := true, laidKinds := [.data], laidTests := true, laidLooks := .later }
def TxSignsCardSaid : Prop := Claim7.holds Tryd.pinned (.plain (OpenSpec.ofChange txSignsSpec)) txSignsCard

/-- THE TIED CARD OF 'beadrolllaw11.TxTells'. -/
def txTellsCard : Claim7 := { stood := { row := txTellsRow, standIns := [], harness := (true, "b22e3e2f4c037fb697305e453ea296469a97aeccbc1b432806424bde7127c108"), looks := false }, kinds := [], alts := [], laidByText := true, laidKinds := [.data], laidTests := true, laidLooks := .later }
def TxTellsCardSaid : Prop := Claim7.holds Tryd.pinned (.plain (OpenSpec.ofChange txTellsSpec)) txTellsCard

/-- THE TIED CARD OF 'beadrolllaw03.TagBack'. -/
def tagBackCard : Claim7 := { stood := { row := tagBackRow, standIns := [], harness := (true, "b22e3e2f4c037fb697305e453ea296469a97aeccbc1b432806424bde7127c108"), looks := false }, kinds := [], alts := [], laidByText := true, laidKinds := [.data], laidTests := true, laidLooks := .later }
def TagBackCardSaid : Prop := Claim7.holds Tryd.pinned (.plain (OpenSpec.ofChange tagBackSpec)) tagBackCard

/-- THE TIED CARD OF 'beadrolllaw03.TagNames'. -/
def tagNamesCard : Claim7 := { stood := { row := tagNamesRow, standIns := [], harness := (true, "b22e3e2f4c037fb697305e453ea296469a97aeccbc1b432806424bde7127c108"), looks := false }, kinds := [], alts := [], laidByText := true, laidKinds := [.data], laidTests := true, laidLooks := .later }
def TagNamesCardSaid : Prop := Claim7.holds Tryd.pinned (.plain (OpenSpec.ofChange tagNamesSpec)) tagNamesCard

/-- THE TIED CARD OF 'beadrolllaw14.HeaderTells'. -/
def headerTellsCard : Claim7 := { stood := { row := headerTellsRow, standIns := [], harness := (true, "b22e3e2f4c037fb697305e453ea296469a97aeccbc1b432806424bde7127c108"), looks := false }, kinds := [], alts := [], laidByText := true, laidKinds := [.data], laidTests := true, laidLooks := .later }
def HeaderTellsCardSaid : Prop := Claim7.holds Tryd.pinned (.plain (OpenSpec.ofChange headerTellsSpec)) headerTellsCard

/-- THE SECOND FORM's CARD OF 'beadrolllaw03.TagTells'. -/
def tagTellsUptoCard : Claim7 := { stood := { row := tagTellsUptoRow, standIns := [], harness := (true, "b22e3e2f4c037fb697305e453ea296469a97aeccbc1b432806424bde7127c108"), looks := false }, kinds := [], alts := [], laidByText := true, laidKinds := [.data], laidTests := true, laidLooks := .later }
def TagTellsUptoCardSaid : Prop := Claim7.holds Tryd.pinned (.plain (OpenSpec.upto tagTellsSpec)) tagTellsUptoCard

/-- THE SECOND FORM's CARD OF 'beadrolllaw11.TxSigns'. -/
def txSignsUptoCard : Claim7 := { stood := { row := txSignsUptoRow, standIns := [], harness := (true, "b22e3e2f4c037fb697305e453ea296469a97aeccbc1b432806424bde7127c108"), looks := false }, kinds := [], alts := [], laidByText := true, laidKinds := [.data], laidTests := true, laidLooks := .later }
def TxSignsUptoCardSaid : Prop := Claim7.holds Tryd.pinned (.plain (OpenSpec.upto txSignsSpec)) txSignsUptoCard

/-- THE SECOND FORM's CARD OF 'beadrolllaw11.TxTells'. -/
def txTellsUptoCard : Claim7 := { stood := { row := txTellsUptoRow, standIns := [], harness := (true, "b22e3e2f4c037fb697305e453ea296469a97aeccbc1b432806424bde7127c108"), looks := false }, kinds := [], alts := [], laidByText := true, laidKinds := [.data], laidTests := true, laidLooks := .later }
def TxTellsUptoCardSaid : Prop := Claim7.holds Tryd.pinned (.plain (OpenSpec.upto txTellsSpec)) txTellsUptoCard

/-- THE SECOND FORM's CARD OF 'beadrolllaw03.TagBack'. -/
def tagBackUptoCard : Claim7 := { stood := { row := tagBackUptoRow, standIns := [], harness := (true, "b22e3e2f4c037fb697305e453ea296469a97aeccbc1b432806424bde7127c108"), looks := false }, kinds := [], alts := [], laidByText := true, laidKinds := [.data], laidTests := true, laidLooks := .later }
def TagBackUptoCardSaid : Prop := Claim7.holds Tryd.pinned (.plain (OpenSpec.upto tagBackSpec)) tagBackUptoCard

/-- THE SECOND FORM's CARD OF 'beadrolllaw03.TagNames'. -/
def tagNamesUptoCard : Claim7 := { stood := { row := tagNamesUptoRow, standIns := [], harness := (true, "b22e3e2f4c037fb697305e453ea296469a97aeccbc1b432806424bde7127c108"), looks := false }, kinds := [], alts := [], laidByText := true, laidKinds := [.data], laidTests := true, laidLooks := .later }
def TagNamesUptoCardSaid : Prop := Claim7.holds Tryd.pinned (.plain (OpenSpec.upto tagNamesSpec)) tagNamesUptoCard

/-- THE SECOND FORM's CARD OF 'beadrolllaw14.HeaderTells'. -/
def headerTellsUptoCard : Claim7 := { stood := { row := headerTellsUptoRow, standIns := [], harness := (true, "b22e3e2f4c037fb697305e453ea296469a97aeccbc1b432806424bde7127c108"), looks := false }, kinds := [], alts := [], laidByText := true, laidKinds := [.data], laidTests := true, laidLooks := .later }
def HeaderTellsUptoCardSaid : Prop := Claim7.holds Tryd.pinned (.plain (OpenSpec.upto headerTellsSpec)) headerTellsUptoCard
end Rows
end Go.Proofs.YtjbjidopjhllbaaDoor
