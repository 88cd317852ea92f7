/-
  What may be a proof. The program's check of a proof. Checks of a proof; what it tells. What a proof tells; twins of proofs. The program's proof.Same. Twins of proofs.
-/
import Derived.Test.YtmaimkbppnpbnaaDoorGG
import Derived.Test.YtmaimkbppnpbnaaDoorGK
set_option linter.unusedVariables false
set_option linter.unusedSimpArgs false
namespace Go.Proofs.YtmaimkbppnpbnaaDoor
open Go Go.RowKit
set_option linter.unusedVariables false
set_option linter.unusedSimpArgs false

open Classical in
/-- How many bits two keys share. -/
noncomputable def sh (a b : List UInt8) : Nat := if h : ∃ n, IsSh a b n then Classical.choose h else 0
theorem IsSh.sh {a b : List UInt8} {n : Nat} (h : IsSh a b n) : sh a b = n := by
  have hx : ∃ n, IsSh a b n := ⟨n, h⟩
  unfold Proofs.YtmaimkbppnpbnaaDoor.sh
  rw [dif_pos hx]
  exact (Classical.choose_spec hx).uniq h

/-- A proof's content. -/
structure Prf where
  key : List UInt8
  kind : Nat
  other : List UInt8
  va : Option Addr
  vc : Nat
  vl : List UInt8
  pa : Option Addr
  pc : Nat
  pl : List (List UInt8)
def Prf.cells (p : Prf) : List Value := bvs p.key ++ (.int .u8 p.kind :: (bvs p.other ++ [.slice p.va p.vl.length p.vc, .slice p.pa p.pl.length p.pc]))
structure Prf.ok (p : Prf) : Prop where
  key : p.key.length = 32
  kind : p.kind < 256
  other : p.other.length = 32
  dg : Dg p.pl
  vl : p.vl.length ≤ 1000000000000
  pl : p.pl.length ≤ 1000000000000
theorem Prf.len {p : Prf} (h : p.ok) : p.cells.length = 67 := by simp [Prf.cells, h.key, h.other]
theorem Prf.f0 {p : Prf} (h : p.ok) : (p.cells.drop (0 + 0)).take 32 = bvs p.key := by
  have := h.key
  simp only [Prf.cells, Nat.add_zero, List.drop_zero]
  rw [List.take_left' (by simpa)]
theorem Prf.f1 {p : Prf} (h : p.ok) : p.cells[0 + 32]? = some (.int .u8 p.kind) := by
  have := h.key
  simp [Prf.cells, List.getElem?_append, h.key]
theorem Prf.f2 {p : Prf} (h : p.ok) : (p.cells.drop (0 + 33)).take 32 = bvs p.other := by
  have := h.key
  have := h.other
  simp [Prf.cells, List.drop_append, List.take_append, h.key, h.other, List.drop_of_length_le]
theorem Prf.f3 {p : Prf} (h : p.ok) : p.cells[0 + 65]? = some (.slice p.va p.vl.length p.vc) := by
  simp [Prf.cells, List.getElem?_append, h.key, h.other]
theorem Prf.f4 {p : Prf} (h : p.ok) : p.cells[0 + 66]? = some (.slice p.pa p.pl.length p.pc) := by
  simp [Prf.cells, List.getElem?_append, h.key, h.other]
def zero32 : List UInt8 := List.replicate 32 0
/-- It may be one. -/
noncomputable def Prf.may1 (p : Prf) : Bool := (if p.kind = 0 then decide (p.other = zero32) && decide (p.vl.length = 0) else if p.kind = 1 then decide (p.other = zero32) && okVal p.vl.length else if p.kind = 2 then okVal p.vl.length && (decide (p.other ≠ p.key) && decide (p.pl.length ≤ sh p.other p.key)) else false)
noncomputable def Prf.may (p : Prf) : Bool := decide (p.pl.length ≤ 256) && p.may1

end Go.Proofs.YtmaimkbppnpbnaaDoor
namespace Go.Proofs.YtmaimkbppnpbnaaDoor
open Go Go.RowKit
set_option linter.unusedVariables false
set_option linter.unusedSimpArgs false

end Go.Proofs.YtmaimkbppnpbnaaDoor
namespace Go.Proofs.YtmaimkbppnpbnaaDoor
open Go Go.RowKit
set_option linter.unusedVariables false
set_option linter.unusedSimpArgs false

/-- What holds of a proof's parts whatever their lengths. -/
structure Prf.ok0 (p : Prf) : Prop where
  key : p.key.length = 32
  kind : p.kind < 256
  other : p.other.length = 32
  dg : Dg p.pl
theorem Prf.ok.ok0 {p : Prf} (h : p.ok) : p.ok0 := ⟨h.key, h.kind, h.other, h.dg⟩
theorem Prf.ok0.len {p : Prf} (h : p.ok0) : p.cells.length = 67 := by simp [Prf.cells, h.key, h.other]
theorem Prf.ok0.f3 {p : Prf} (h : p.ok0) : p.cells[0 + 65]? = some (.slice p.va p.vl.length p.vc) := by
  simp [Prf.cells, List.getElem?_append, h.key, h.other]
theorem Prf.ok0.f4 {p : Prf} (h : p.ok0) : p.cells[0 + 66]? = some (.slice p.pa p.pl.length p.pc) := by
  simp [Prf.cells, List.getElem?_append, h.key, h.other]
/-- It tells a value; the value. -/
noncomputable def Prf.isT (p : Prf) : Bool := p.may && decide (p.kind = 1)
noncomputable def Prf.tl (p : Prf) : List UInt8 := if p.isT then p.vl else []
end Go.Proofs.YtmaimkbppnpbnaaDoor
namespace Go.Proofs.YtmaimkbppnpbnaaDoor
open Go Go.RowKit
set_option linter.unusedVariables false
set_option linter.unusedSimpArgs false

end Go.Proofs.YtmaimkbppnpbnaaDoor
namespace Go.Proofs.YtmaimkbppnpbnaaDoor
open Go Go.RowKit
set_option linter.unusedVariables false
set_option linter.unusedSimpArgs false

end Go.Proofs.YtmaimkbppnpbnaaDoor
namespace Go.Proofs.YtmaimkbppnpbnaaDoor
open Go Go.RowKit
set_option linter.unusedVariables false
set_option linter.unusedSimpArgs false

abbrev ownD (a : Option Addr) (cap : Nat) (xs : List (List UInt8)) : Asn := own 26 32 a xs.length cap (bvs xs.flatten)

instance oc_prf (p : Prf) : OC p.cells := (inferInstance : OC (bvs p.key ++ (.int .u8 p.kind :: (bvs p.other ++ [.slice p.va p.vl.length p.vc, .slice p.pa p.pl.length p.pc]))))
end Go.Proofs.YtmaimkbppnpbnaaDoor
