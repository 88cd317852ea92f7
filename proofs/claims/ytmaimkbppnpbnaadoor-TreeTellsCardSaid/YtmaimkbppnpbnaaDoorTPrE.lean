/-
  A proof hangs on the pairs alone: plain.
-/
import Derived.Test.YtmaimkbppnpbnaaDoorTE
set_option linter.unusedVariables false
set_option linter.unusedSimpArgs false
namespace Go.Proofs.YtmaimkbppnpbnaaDoor
open Go Go.RowKit
set_option linter.unusedVariables false
set_option linter.unusedSimpArgs false
open Classical

/-- A key's road, by the pairs: where it ends, and its sides. -/
noncomputable def endF : Nat → List KV → Nat → List UInt8 → Option KV × List (List UInt8)
  | 0, _, _, _ => (none, [])
  | f + 1, l, d, k => match l with
    | [] => (none, [])
    | [x] => (some x, [])
    | x :: y :: l => if bitAt k d = 0 then ((endF f (bit0 (x :: y :: l) d) (d + 1) k).1, rootF (f + 1) (bit1 (x :: y :: l) d) (d + 1) :: (endF f (bit0 (x :: y :: l) d) (d + 1) k).2)
      else ((endF f (bit1 (x :: y :: l) d) (d + 1) k).1, rootF (f + 1) (bit0 (x :: y :: l) d) (d + 1) :: (endF f (bit1 (x :: y :: l) d) (d + 1) k).2)
structure EndR (ns : List Nd) (m : Nat) (e : Option KV) : Prop where
  no : m = 0 → e = none
  yes : ∀ i, m = i + 1 → ∃ x, ns[i]? = some x ∧ x.leaf = true ∧ e = some (x.key, x.v)
/-- The proof of a key, by the pairs. -/
noncomputable def prfG (l : List KV) (k : List UInt8) : Prf :=
  match (endF 257 l 0 k).1 with
  | none => ⟨k, 0, z32, none, 0, [], none, 0, (endF 257 l 0 k).2⟩
  | some x => if x.1 = k then ⟨k, 1, z32, none, 0, x.2, none, 0, (endF 257 l 0 k).2⟩ else ⟨k, 2, x.1, none, 0, x.2, none, 0, (endF 257 l 0 k).2⟩
end Go.Proofs.YtmaimkbppnpbnaaDoor
