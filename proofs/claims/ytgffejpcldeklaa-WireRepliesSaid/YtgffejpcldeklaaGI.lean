/-
  Maps as lists of keys and values: plain. Pairs: their cells; which key is ahead; whether pairs are a map. Pairs: where a key is; a key's value; whether two are the same. Pairs: how many statements go through; what is the same is known to be.
-/
import Derived.Test.YtgffejpcldeklaaGG
import Derived.Test.YtgffejpcldeklaaGF
import Derived.Test.YtgffejpcldeklaaGC
import Derived.Test.YtgffejpcldeklaaGB
import Derived.Test.YtgffejpcldeklaaGK
set_option linter.unusedVariables false
set_option linter.unusedSimpArgs false
set_option linter.unusedSectionVars false

namespace Go.Proofs.Ytgffejpcldeklaa
open Go Go.RowKit
open Classical

/-- A key and a value. -/
abbrev KV := List UInt8 × List UInt8
def K32 (l : List KV) : Prop := ∀ x ∈ l, x.1.length = 32
def Srt (l : List KV) : Prop := l.Pairwise (fun x y => Ahd x.1 y.1)
theorem K32.sub {l m : List KV} (h : K32 l) (hs : ∀ x ∈ m, x ∈ l) : K32 m := fun x hx => h x (hs x hx)
theorem Srt.sub {l m : List KV} (h : Srt l) (hs : m.Sublist l) : Srt m := List.Pairwise.sublist hs h
/-- The value of a key; the map with one, without one. -/
noncomputable def has (l : List KV) (k : List UInt8) : Bool := l.any fun x => decide (x.1 = k)
noncomputable def lowF (l : List KV) (k : List UInt8) : List KV := l.filter fun x => decide (Ahd x.1 k)
noncomputable def highF (l : List KV) (k : List UInt8) : List KV := l.filter fun x => decide (Ahd k x.1)
noncomputable def putF (l : List KV) (k v : List UInt8) : List KV := lowF l k ++ (k, v) :: highF l k
theorem mem_low {l : List KV} {k : List UInt8} {x : KV} : x ∈ lowF l k ↔ x ∈ l ∧ Ahd x.1 k := by simp [lowF]
theorem mem_high {l : List KV} {k : List UInt8} {x : KV} : x ∈ highF l k ↔ x ∈ l ∧ Ahd k x.1 := by simp [highF]
theorem mem_put {l : List KV} (h : K32 l) {k v : List UInt8} (hk : k.length = 32) {x : KV} : x ∈ putF l k v ↔ x = (k, v) ∨ x ∈ l ∧ x.1 ≠ k := by
  simp only [putF, List.mem_append, List.mem_cons, mem_low, mem_high]
  constructor
  · rintro (⟨h1, h2⟩ | rfl | ⟨h1, h2⟩)
    · exact .inr ⟨h1, h2.ne⟩
    · exact .inl rfl
    · exact .inr ⟨h1, h2.ne.symm⟩
  · rintro (rfl | ⟨h1, h2⟩)
    · exact .inr (.inl rfl)
    · rcases Ahd.tri (h x h1) hk with e | e | e
      · exact .inl ⟨h1, e⟩
      · exact absurd e h2
      · exact .inr (.inr ⟨h1, e⟩)

theorem K32.put {l : List KV} (h : K32 l) {k v : List UInt8} (hk : k.length = 32) : K32 (putF l k v) := fun x hx => by
  rcases (mem_put h hk).1 hx with rfl | ⟨h1, _⟩
  · exact hk
  · exact h x h1
end Go.Proofs.Ytgffejpcldeklaa
namespace Go.Proofs.Ytgffejpcldeklaa
open Go Go.RowKit
open Classical

/-- A pair as it lies. -/
structure PR where
  key : List UInt8
  a : Option Addr
  c : Nat
  v : List UInt8
def PR.cells (p : PR) : List Value := bvs p.key ++ [.slice p.a p.v.length p.c]
def PR.pb (p : PR) : PB := ⟨p.a, p.c, p.v⟩
abbrev prc (ps : List PR) : List Value := flat PR.cells ps
structure PsOk (ps : List PR) : Prop where
  key : ∀ p ∈ ps, p.key.length = 32
  vl : ∀ p ∈ ps, p.v.length ≤ 1000000
  len : ps.length ≤ 1000000
theorem PR.len {p : PR} (h : p.key.length = 32) : p.cells.length = 33 := by simp [PR.cells, h]
theorem PsOk.wide {ps : List PR} (h : PsOk ps) : Wide PR.cells 33 ps := fun p hp => PR.len (h.key p hp)
theorem PsOk.sub {ps qs : List PR} (h : PsOk ps) (hs : ∀ p ∈ qs, p ∈ ps) (hl : qs.length ≤ ps.length) : PsOk qs := ⟨fun p hp => h.key p (hs p hp), fun p hp => h.vl p (hs p hp), by have := h.len; omega⟩
theorem PR.f0 {p : PR} (h : p.key.length = 32) : (p.cells.drop (0 + 0)).take 32 = bvs p.key := by
  simp only [PR.cells, Nat.add_zero, List.drop_zero]
  rw [List.take_left' (by simp [h])]
theorem PR.f1 {p : PR} (h : p.key.length = 32) : p.cells[0 + 32]? = some (.slice p.a p.v.length p.c) := by
  simp [PR.cells, List.getElem?_append, h]
section
variable {ps : List PR}
theorem PsOk.e (h : PsOk ps) (k : Nat) (hk : k < ps.length) : ((prc ps).drop (k * 33)).take 33 = ps[k].cells := h.wide.at k hk
theorem PsOk.e0 (h : PsOk ps) (k : Nat) (hk : k < ps.length) : ((prc ps).drop (k * 33 + 0)).take 32 = bvs ps[k].key := by
  rw [h.wide.part k hk 0 32 (by decide)]
  exact PR.f0 (h.key _ (List.getElem_mem hk))
theorem PsOk.e1 (h : PsOk ps) (k : Nat) (hk : k < ps.length) : (prc ps)[k * 33 + 32]? = some (.slice ps[k].a ps[k].v.length ps[k].c) := by
  rw [h.wide.cell k hk 32 (by decide)]
  exact PR.f1 (h.key _ (List.getElem_mem hk))
theorem PsOk.pos (h : PsOk ps) (k : Nat) (hk : k < ps.length) : 0 < (prc ps).length := h.wide.pos (by decide) (by omega)
end
/-- Their values can be read. -/
class RdVs (w0 : World) (L : List Asn) (ps : List PR) : Prop where
  out : ∀ p ∈ ps, RdC w0 L p.a (bvs p.v)
theorem RdVs.at {w0 : World} {L : List Asn} {ps : List PR} (h : RdVs w0 L ps) (k : Nat) (hk : k < ps.length) : RdC w0 L (ps[k]).a (bvs (ps[k]).v) := h.out _ (List.getElem_mem hk)
theorem RdVs.sub {w0 : World} {L : List Asn} {ps qs : List PR} (h : RdVs w0 L ps) (hs : ∀ p ∈ qs, p ∈ ps) : RdVs w0 L qs := ⟨fun p hp => h.out p (hs p hp)⟩
/-! ### Which key is ahead -/
/-! ### Whether pairs are a map -/
end Go.Proofs.Ytgffejpcldeklaa
namespace Go.Proofs.Ytgffejpcldeklaa
open Go Go.RowKit
open Classical

end Go.Proofs.Ytgffejpcldeklaa
namespace Go.Proofs.Ytgffejpcldeklaa
open Go Go.RowKit
open Classical


/-- What holds of pairs whatever their lengths. -/
structure PsOk0 (ps : List PR) : Prop where
  key : ∀ p ∈ ps, p.key.length = 32
  len : ps.length ≤ 9223372036854775807
theorem PsOk0.wide {ps : List PR} (h : PsOk0 ps) : Wide PR.cells 33 ps := fun p hp => PR.len (h.key p hp)
/-- More than statements go through. -/
def GrP (m : Nat) (ps : List PR) : Prop := m < ps.length ∨ ∃ p ∈ ps, 100 < p.v.length
theorem PsOk0.ok {m : Nat} {ps : List PR} (h : PsOk0 ps) (hm : m ≤ 1000000) (hg : ¬ GrP m ps) : PsOk ps := ⟨h.key, fun p hp => by
  rcases Nat.lt_or_ge 1000000 p.v.length with e | e
  · exact absurd (.inr ⟨p, hp, by omega⟩) hg
  · exact e, by
  rcases Nat.lt_or_ge m ps.length with e | e
  · exact absurd (.inl e) hg
  · omega⟩
end Go.Proofs.Ytgffejpcldeklaa
