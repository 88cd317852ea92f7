/-
  No cell of these rows narrows 'for every input' (looked for: loops, veiled, ifaces, maps, wideKeys, modest, calm, conditions, laid).
  DERIVED. THE GIVEN ROWS OF THIS SEAT. 6 by the template 'for every input the law returns true; each argument reads behind the call as it read before'; 0 by the template 'total and deterministic' (their statements: YtjbjidopjhllbaaTotals.lean).
  GIVEN WITH THE SEED: the statements are not yours to turn. If you find one false, say at which input.
  Laid BY PROGRAM, IN A SANDBOX (cutbox-rows.mjs): the forced cells as the released guide's own fill.sh prints them over the translation e05960b7cd436646… (all of the seat's roots in one cut). By AI agents, Wed Nov 11 2026. No macro, syntax, notation, axiom, sorry.
-/
import Derived.Test.YtjbjidopjhllbaaChecked
import GoSem.Claim
import GoSem.ClaimJoined
import GoSem.ClaimMapViews
import Derived.JoinedTies
import Derived.KernelRfl
namespace Go.Proofs.Ytjbjidopjhllbaa
/- THE CELL 'sum', in the pinned program and in every row, IS THE sha256 OF THE DUMP (.gsa) THAT YtjbjidopjhllbaaProg.lean LOADS. Nothing in Lean hashes anything: it is a label: what it is worth is what the hold of that sum in a sandbox is worth. -/
noncomputable def Try.pinned : Pinned := { name := "ytjbjidopjhllbaa", sum := "e05960b7cd4366463bab627369b14099267d0ca0e4e78ecf7285b8b19cb18097", checked := Try.checked }
namespace Rows
def none {H : Type} : Left H := { results := [], args := [] }

/-- 'beadrolllaw14.HeaderReads': WHATEVER THE INPUT: true; the input reads as it did. -/
def headerReadsSpec : ChangeSpec := { name := "headerReads", fn := fun _ => fun
  | [d] => { results := [.lit (.bool true)], args := [d] }
  | _ => none }
def headerReadsRow : OpenClaim := { program := "ytjbjidopjhllbaa", sum := "e05960b7cd4366463bab627369b14099267d0ca0e4e78ecf7285b8b19cb18097", func := "beadroll/beadrolllaw14.HeaderReads", spec := "headerReads", apart := false }
def HeaderReadsSaid : Prop := headerReadsRow.holds Try.pinned (OpenSpec.ofChange headerReadsSpec)

/-- ITS FALSE NEIGHBOUR: 'it returns false'. Refute it at one input. -/
def headerReadsWrong : ChangeSpec := { name := "headerReads", fn := fun _ => fun
  | [d] => { results := [.lit (.bool false)], args := [d] }
  | _ => none }
def HeaderReadsWrongFalsely : Prop := headerReadsRow.holds Try.pinned (OpenSpec.ofChange headerReadsWrong)

/-- 'beadrolllaw03.TagParts': WHATEVER THE INPUT: true; the input reads as it did. -/
def tagPartsSpec : ChangeSpec := { name := "tagParts", fn := fun _ => fun
  | [d] => { results := [.lit (.bool true)], args := [d] }
  | _ => none }
def tagPartsRow : OpenClaim := { program := "ytjbjidopjhllbaa", sum := "e05960b7cd4366463bab627369b14099267d0ca0e4e78ecf7285b8b19cb18097", func := "beadroll/beadrolllaw03.TagParts", spec := "tagParts", unfollowed := true, recurses := true, apart := false }
def TagPartsSaid : Prop := tagPartsRow.holds Try.pinned (OpenSpec.ofChange tagPartsSpec)

/-- ITS FALSE NEIGHBOUR: 'it returns false'. Refute it at one input. -/
def tagPartsWrong : ChangeSpec := { name := "tagParts", fn := fun _ => fun
  | [d] => { results := [.lit (.bool false)], args := [d] }
  | _ => none }
def TagPartsWrongFalsely : Prop := tagPartsRow.holds Try.pinned (OpenSpec.ofChange tagPartsWrong)

/-- 'beadrolllaw12.ReceiptBack': WHATEVER THE INPUT: true; the input reads as it did. -/
def receiptBackSpec : ChangeSpec := { name := "receiptBack", fn := fun _ => fun
  | [d1, d2] => { results := [.lit (.bool true)], args := [d1, d2] }
  | _ => none }
def receiptBackRow : OpenClaim := { program := "ytjbjidopjhllbaa", sum := "e05960b7cd4366463bab627369b14099267d0ca0e4e78ecf7285b8b19cb18097", func := "beadroll/beadrolllaw12.ReceiptBack", spec := "receiptBack", apart := false }
def ReceiptBackSaid : Prop := receiptBackRow.holds Try.pinned (OpenSpec.ofChange receiptBackSpec)

/-- ITS FALSE NEIGHBOUR: 'it returns false'. Refute it at one input. -/
def receiptBackWrong : ChangeSpec := { name := "receiptBack", fn := fun _ => fun
  | [d1, d2] => { results := [.lit (.bool false)], args := [d1, d2] }
  | _ => none }
def ReceiptBackWrongFalsely : Prop := receiptBackRow.holds Try.pinned (OpenSpec.ofChange receiptBackWrong)

/-- 'beadrolllaw03.TagOne': WHATEVER THE INPUT: true; the input reads as it did. -/
def tagOneSpec : ChangeSpec := { name := "tagOne", fn := fun _ => fun
  | [d1, d2, d3, d4] => { results := [.lit (.bool true)], args := [d1, d2, d3, d4] }
  | _ => none }
def tagOneRow : OpenClaim := { program := "ytjbjidopjhllbaa", sum := "e05960b7cd4366463bab627369b14099267d0ca0e4e78ecf7285b8b19cb18097", func := "beadroll/beadrolllaw03.TagOne", spec := "tagOne", unfollowed := true, recurses := true, apart := false }
def TagOneSaid : Prop := tagOneRow.holds Try.pinned (OpenSpec.ofChange tagOneSpec)

/-- ITS FALSE NEIGHBOUR: 'it returns false'. Refute it at one input. -/
def tagOneWrong : ChangeSpec := { name := "tagOne", fn := fun _ => fun
  | [d1, d2, d3, d4] => { results := [.lit (.bool false)], args := [d1, d2, d3, d4] }
  | _ => none }
def TagOneWrongFalsely : Prop := tagOneRow.holds Try.pinned (OpenSpec.ofChange tagOneWrong)

/-- 'beadrolllaw07.ProofTells': WHATEVER THE INPUT: true; the input reads as it did. -/
def proofTellsSpec : ChangeSpec := { name := "proofTells", fn := fun _ => fun
  | [d1, d2] => { results := [.lit (.bool true)], args := [d1, d2] }
  | _ => none }
def proofTellsRow : OpenClaim := { program := "ytjbjidopjhllbaa", sum := "e05960b7cd4366463bab627369b14099267d0ca0e4e78ecf7285b8b19cb18097", func := "beadroll/beadrolllaw07.ProofTells", spec := "proofTells", unfollowed := true, recurses := true, apart := false }
def ProofTellsSaid : Prop := proofTellsRow.holds Try.pinned (OpenSpec.ofChange proofTellsSpec)

/-- ITS FALSE NEIGHBOUR: 'it returns false'. Refute it at one input. -/
def proofTellsWrong : ChangeSpec := { name := "proofTells", fn := fun _ => fun
  | [d1, d2] => { results := [.lit (.bool false)], args := [d1, d2] }
  | _ => none }
def ProofTellsWrongFalsely : Prop := proofTellsRow.holds Try.pinned (OpenSpec.ofChange proofTellsWrong)

/-- 'beadrolllaw14.HeaderBack': WHATEVER THE INPUT: true; the input reads as it did. -/
def headerBackSpec : ChangeSpec := { name := "headerBack", fn := fun _ => fun
  | [d1, d2] => { results := [.lit (.bool true)], args := [d1, d2] }
  | _ => none }
def headerBackRow : OpenClaim := { program := "ytjbjidopjhllbaa", sum := "e05960b7cd4366463bab627369b14099267d0ca0e4e78ecf7285b8b19cb18097", func := "beadroll/beadrolllaw14.HeaderBack", spec := "headerBack", inPlace := ["internal/bytealg.MakeNoZero"], apart := false }
def HeaderBackSaid : Prop := headerBackRow.holds Try.pinned (OpenSpec.ofChange headerBackSpec)

/-- ITS FALSE NEIGHBOUR: 'it returns false'. Refute it at one input. -/
def headerBackWrong : ChangeSpec := { name := "headerBack", fn := fun _ => fun
  | [d1, d2] => { results := [.lit (.bool false)], args := [d1, d2] }
  | _ => none }
def HeaderBackWrongFalsely : Prop := headerBackRow.holds Try.pinned (OpenSpec.ofChange headerBackWrong)

/- THE SECOND FORM. 'bulk': how many values and letters a reading holds, each counted each time it is reached (what is shared counts as often as it is met; a slice's spare places count too). A statement '..UptoSaid' is the law's where the arguments, and the package variables that the reading takes, are together of bulk at most 1048576: NARROWER than '..Said'. Prove '..Said' where nothing that the law and all that it calls make is longer than what came in: it says more and counts as full. Else prove '..UptoSaid'. A law counts once. -/
mutual
def uptoBulk {H : Type} : DataW H → Nat
  | .lit (.string bytes) => bytes.length + 1
  | .lit _ => 1
  | .nil => 1
  | .ptr d => uptoBulk d + 1
  | .slice elems spare => uptoBulkAll elems + uptoBulkAll spare + 1
  | .agg parts => uptoBulkAll parts + 1
  | .iface _ d => uptoBulk d + 1
  | .map entries => uptoBulkEntries entries + 1
  | .held _ => 1
def uptoBulkAll {H : Type} : List (DataW H) → Nat
  | [] => 0
  | d :: r => uptoBulk d + uptoBulkAll r
def uptoBulkEntries {H : Type} : List (Lit × DataW H) → Nat
  | [] => 0
  | x :: r => uptoBulkEntry x + uptoBulkEntries r
def uptoBulkEntry {H : Type} : Lit × DataW H → Nat
  | (.string bytes, d) => bytes.length + uptoBulk d + 1
  | (_, d) => uptoBulk d + 1
 end
def uptoSmall : (H : Type) → List (DataW H) → Bool := fun _ ds => decide (uptoBulkAll ds ≤ 1048576)
def OpenSpec.upto (s : _root_.Go.ChangeSpec) : _root_.Go.OpenSpec := { _root_.Go.OpenSpec.ofChange s with cond := some uptoSmall }

/-- 'beadrolllaw14.HeaderReads', WHERE WHAT IT READS IS OF BULK AT MOST 1048576: true; the input reads as it did. -/
def headerReadsUptoRow : OpenClaim := { program := "ytjbjidopjhllbaa", sum := "e05960b7cd4366463bab627369b14099267d0ca0e4e78ecf7285b8b19cb18097", func := "beadroll/beadrolllaw14.HeaderReads", spec := "headerReads", apart := false, narrowed := true }
def HeaderReadsUptoSaid : Prop := headerReadsUptoRow.holds Try.pinned (OpenSpec.upto headerReadsSpec)

/-- 'beadrolllaw03.TagParts', WHERE WHAT IT READS IS OF BULK AT MOST 1048576: true; the input reads as it did. -/
def tagPartsUptoRow : OpenClaim := { program := "ytjbjidopjhllbaa", sum := "e05960b7cd4366463bab627369b14099267d0ca0e4e78ecf7285b8b19cb18097", func := "beadroll/beadrolllaw03.TagParts", spec := "tagParts", unfollowed := true, recurses := true, apart := false, narrowed := true }
def TagPartsUptoSaid : Prop := tagPartsUptoRow.holds Try.pinned (OpenSpec.upto tagPartsSpec)

/-- 'beadrolllaw12.ReceiptBack', WHERE WHAT IT READS IS OF BULK AT MOST 1048576: true; the input reads as it did. -/
def receiptBackUptoRow : OpenClaim := { program := "ytjbjidopjhllbaa", sum := "e05960b7cd4366463bab627369b14099267d0ca0e4e78ecf7285b8b19cb18097", func := "beadroll/beadrolllaw12.ReceiptBack", spec := "receiptBack", apart := false, narrowed := true }
def ReceiptBackUptoSaid : Prop := receiptBackUptoRow.holds Try.pinned (OpenSpec.upto receiptBackSpec)

/-- 'beadrolllaw03.TagOne', WHERE WHAT IT READS IS OF BULK AT MOST 1048576: true; the input reads as it did. -/
def tagOneUptoRow : OpenClaim := { program := "ytjbjidopjhllbaa", sum := "e05960b7cd4366463bab627369b14099267d0ca0e4e78ecf7285b8b19cb18097", func := "beadroll/beadrolllaw03.TagOne", spec := "tagOne", unfollowed := true, recurses := true, apart := false, narrowed := true }
def TagOneUptoSaid : Prop := tagOneUptoRow.holds Try.pinned (OpenSpec.upto tagOneSpec)

/-- 'beadrolllaw07.ProofTells', WHERE WHAT IT READS IS OF BULK AT MOST 1048576: true; the input reads as it did. -/
def proofTellsUptoRow : OpenClaim := { program := "ytjbjidopjhllbaa", sum := "e05960b7cd4366463bab627369b14099267d0ca0e4e78ecf7285b8b19cb18097", func := "beadroll/beadrolllaw07.ProofTells", spec := "proofTells", unfollowed := true, recurses := true, apart := false, narrowed := true }
def ProofTellsUptoSaid : Prop := proofTellsUptoRow.holds Try.pinned (OpenSpec.upto proofTellsSpec)

/-- 'beadrolllaw14.HeaderBack', WHERE WHAT IT READS IS OF BULK AT MOST 1048576: true; the input reads as it did. -/
def headerBackUptoRow : OpenClaim := { program := "ytjbjidopjhllbaa", sum := "e05960b7cd4366463bab627369b14099267d0ca0e4e78ecf7285b8b19cb18097", func := "beadroll/beadrolllaw14.HeaderBack", spec := "headerBack", inPlace := ["internal/bytealg.MakeNoZero"], apart := false, narrowed := true }
def HeaderBackUptoSaid : Prop := headerBackUptoRow.holds Try.pinned (OpenSpec.upto headerBackSpec)

end Rows
end Go.Proofs.Ytjbjidopjhllbaa
