/-
  Parts held against parts. The kind and the parts of a text: the plain answer; the reference's reader. The program's reader of kinds and parts. The reader of kinds and parts answers as the second writing of it does. The writer of kinds and parts; how great parts are. Digits; the document's bytes of a kind and parts; digests of them.
-/
import Derived.Test.YtmaimkbppnpbnaaGB
import Derived.Test.YtmaimkbppnpbnaaGC
import Derived.Test.YtmaimkbppnpbnaaGE
set_option linter.unusedVariables false
set_option linter.unusedSimpArgs false
namespace Go.Proofs.Ytmaimkbppnpbnaa
open Go Go.RowKit

def ls (ps : List PB) : List (List UInt8) := ps.map (·.l)
end Go.Proofs.Ytmaimkbppnpbnaa
namespace Go.Proofs.Ytmaimkbppnpbnaa
open Go Go.RowKit
set_option linter.unusedVariables false
set_option linter.unusedSimpArgs false

/-- The parts of bytes, and the error (0: none). -/
def partsG : Nat → List UInt8 → Int × List (List UInt8)
  | 0, _ => (0, [])
  | f + 1, l => if l.length = 0 then (0, []) else if l.length < 4 then (10, []) else
    if 4096 < numOf (l.take 4) then (4, []) else if l.length - 4 < numOf (l.take 4) then (10, []) else
    ((partsG f (l.drop (4 + numOf (l.take 4)))).1, (l.drop 4).take (numOf (l.take 4)) :: (partsG f (l.drop (4 + numOf (l.take 4)))).2)
def parts (l : List UInt8) : Int × List (List UInt8) := partsG l.length l
/-- What a text's reader answers. -/
def tagOf (l : List UInt8) : Nat × List (List UInt8) × Int :=
  if l.length = 0 then (0, [], 10) else if (parts (l.drop 1)).1 = 0 then ((l.getD 0 0).toNat, (parts (l.drop 1)).2, 0) else (0, [], (parts (l.drop 1)).1)
/-- With parts that have been read. -/
def more (acc : List (List UInt8)) (r : Int × List (List UInt8)) : Int × List (List UInt8) := (r.1, acc ++ r.2)

end Go.Proofs.Ytmaimkbppnpbnaa
namespace Go.Proofs.Ytmaimkbppnpbnaa
open Go Go.RowKit
set_option linter.unusedVariables false
set_option linter.unusedSimpArgs false

def RTag (w0 : World) (L : List Asn) (l : List UInt8) (v : Value) (L' : List Asn) : Prop := ∃ L'', Ent w0 L' L'' ∧ ∃ a' cap' ps, v = .tuple #[.int .u8 (tagOf l).1, .slice a' ps.length cap', .int .i64 (tagOf l).2.2] ∧ ls ps = (tagOf l).2.1 ∧ L'' = own 27 1 a' ps.length cap' (pbs ps) :: psA ps :: L
theorem RTag.none {w0 : World} {L L1 : List Asn} {l : List UInt8} {e : Int} (hse : SE L1 L) (ht : tagOf l = (0, [], e)) : RTag w0 L l (.tuple #[.int .u8 0, .slice none 0 0, .int .i64 e]) L1 :=
  ⟨_, (hse.trans ((se_psA_nil L).trans (se_own_nil _ 1 _))).ent w0, Option.none, 0, [], by rw [ht]; rfl, by rw [ht]; rfl, rfl⟩
end Go.Proofs.Ytmaimkbppnpbnaa
namespace Go.Proofs.Ytmaimkbppnpbnaa
open Go Go.RowKit
set_option linter.unusedVariables false
set_option linter.unusedSimpArgs false

end Go.Proofs.Ytmaimkbppnpbnaa
namespace Go.Proofs.Ytmaimkbppnpbnaa
open Go Go.RowKit
set_option linter.unusedVariables false
set_option linter.unusedSimpArgs false
/-- Parts that could be read when the call began. -/
class RdAs (w0 : World) (ps : List PB) : Prop where
  out : ∀ p ∈ ps, RdA w0 p.a (bvs p.l)
instance (w0 : World) (L : List Asn) (ps : List PB) [h : RdAs w0 ps] : RdPs w0 L ps := ⟨fun p hp => by
  haveI := h.out p hp
  infer_instance⟩

/-- The bytes that stand for a kind and its parts. -/
def tagB (k : Nat) (xs : List (List UInt8)) : List UInt8 := UInt8.ofNat k :: xs.flatMap fun x => digs x.length 4 ++ x
end Go.Proofs.Ytmaimkbppnpbnaa
namespace Go.Proofs.Ytmaimkbppnpbnaa
open Go Go.RowKit
set_option linter.unusedVariables false
set_option linter.unusedSimpArgs false

def tls (D : List UInt8) (s j : Nat) : List UInt8 := List.replicate (s - j) 0 ++ D.drop (s - j)
end Go.Proofs.Ytmaimkbppnpbnaa
