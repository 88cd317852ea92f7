/-
  Roots of maps.
-/
import Derived.Test.YtgffejpcldeklaaGI
import Derived.Test.YtgffejpcldeklaaGF
set_option linter.unusedVariables false
set_option linter.unusedSimpArgs false
set_option linter.unusedSectionVars false

namespace Go.Proofs.Ytgffejpcldeklaa
open Go Go.RowKit
open Classical

/-- Keys that share so many bits. -/
def Shr (l : List KV) (d : Nat) : Prop := ∀ x ∈ l, ∀ y ∈ l, ∀ m, m < d → bitAt x.1 m = bitAt y.1 m
theorem Shr.zero (l : List KV) : Shr l 0 := fun _ _ _ _ m hm => by omega
theorem Shr.sub {l m : List KV} {d : Nat} (h : Shr l d) (hs : ∀ x ∈ m, x ∈ l) : Shr m d := fun x hx y hy => h x (hs x hx) y (hs y hy)
theorem Shr.step {l : List KV} {d : Nat} (h : Shr l d) {b : Nat} (hb : ∀ x ∈ l, bitAt x.1 d = b) : Shr l (d + 1) := fun x hx y hy m hm => by
  rcases Nat.lt_or_ge m d with e | e
  · exact h x hx y hy m e
  · obtain rfl : m = d := by omega
    rw [hb x hx, hb y hy]
end Go.Proofs.Ytgffejpcldeklaa
