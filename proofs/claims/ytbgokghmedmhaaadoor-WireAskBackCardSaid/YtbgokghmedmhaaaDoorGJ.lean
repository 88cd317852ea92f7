/-
  Roots of maps.
-/
import Derived.Test.YtbgokghmedmhaaaDoorGI
import Derived.Test.YtbgokghmedmhaaaDoorGF
set_option linter.unusedVariables false
set_option linter.unusedSimpArgs false
namespace Go.Proofs.YtbgokghmedmhaaaDoor
open Go Go.RowKit
set_option linter.unusedVariables false
set_option linter.unusedSimpArgs false
open Classical

/-- Digests of nothing, of a pair, of two. -/
def sha0 : List UInt8 := sha [0]
def leaf1 (k v : List UInt8) : List UInt8 := sha (tagB 1 [k, v])
def fork2 (a b : List UInt8) : List UInt8 := sha (tagB 2 [a, b])
/-- A bit of keys; the root of a map's pairs that share so many bits. -/
noncomputable def bit0 (l : List KV) (d : Nat) : List KV := l.filter fun x => decide (bitAt x.1 d = 0)
noncomputable def bit1 (l : List KV) (d : Nat) : List KV := l.filter fun x => decide (¬ bitAt x.1 d = 0)
noncomputable def rootF : Nat → List KV → Nat → List UInt8
  | 0, _, _ => sha0
  | f + 1, l, d => match l with
    | [] => sha0
    | [x] => leaf1 x.1 x.2
    | x :: y :: l => fork2 (rootF f (bit0 (x :: y :: l) d) (d + 1)) (rootF f (bit1 (x :: y :: l) d) (d + 1))
/-- Keys that share so many bits. -/
def Shr (l : List KV) (d : Nat) : Prop := ∀ x ∈ l, ∀ y ∈ l, ∀ m, m < d → bitAt x.1 m = bitAt y.1 m
theorem Shr.zero (l : List KV) : Shr l 0 := fun _ _ _ _ m hm => by omega
theorem Shr.sub {l m : List KV} {d : Nat} (h : Shr l d) (hs : ∀ x ∈ m, x ∈ l) : Shr m d := fun x hx y hy => h x (hs x hx) y (hs y hy)
theorem Shr.step {l : List KV} {d : Nat} (h : Shr l d) {b : Nat} (hb : ∀ x ∈ l, bitAt x.1 d = b) : Shr l (d + 1) := fun x hx y hy m hm => by
  rcases Nat.lt_or_ge m d with e | e
  · exact h x hx y hy m e
  · obtain rfl : m = d := by omega
    rw [hb x hx, hb y hy]
theorem Shr.bit0 {l : List KV} {d : Nat} (h : Shr l d) : Shr (bit0 l d) (d + 1) := (h.sub (m := Proofs.YtbgokghmedmhaaaDoor.bit0 l d) (fun x hx => (List.mem_filter.1 hx).1)).step (b := 0) (fun x hx => by simpa using (List.mem_filter.1 hx).2)
theorem Shr.bit1 {l : List KV} {d : Nat} (h : Shr l d) : Shr (bit1 l d) (d + 1) := (h.sub (m := Proofs.YtbgokghmedmhaaaDoor.bit1 l d) (fun x hx => (List.mem_filter.1 hx).1)).step (b := 1) (fun x hx => by
  have := (List.mem_filter.1 hx).2
  have h2 := bitAt_lt x.1 d
  have : ¬ bitAt x.1 d = 0 := by simpa using this
  omega)
end Go.Proofs.YtbgokghmedmhaaaDoor
