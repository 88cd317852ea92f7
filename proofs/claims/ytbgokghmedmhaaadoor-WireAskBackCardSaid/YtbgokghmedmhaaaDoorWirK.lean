/-
  Requests and bytes: the statement's law.
-/
import Derived.Test.YtbgokghmedmhaaaDoorWirH
import Derived.Test.YtbgokghmedmhaaaDoorWirJ
import Derived.Test.YtbgokghmedmhaaaDoorGK
set_option linter.unusedVariables false
set_option linter.unusedSimpArgs false
namespace Go.Proofs.YtbgokghmedmhaaaDoor
open Go Go.RowKit
set_option linter.unusedVariables false
set_option linter.unusedSimpArgs false
open Classical

theorem wir_u8 {n : Int} (h : (Lit.int .u8 n).wf = true) : 0 ≤ n ∧ n < 256 := by
  simp [Lit.wf, IntKind.min, IntKind.max, IntKind.bits, IntKind.signed] at h
  omega
theorem wir_i64 {n : Int} (h : (Lit.int .i64 n).wf = true) : -9223372036854775808 ≤ n ∧ n < 9223372036854775808 := by
  simp [Lit.wf, IntKind.min, IntKind.max, IntKind.bits, IntKind.signed] at h
  omega
theorem ask_of_fits {cs : List Value} (h : FitsW askShape cs) : ∃ a : Ask, a.ok ∧ cs = a.cells := by
  rw [askShape_eq] at h
  obtain ⟨k, us, rfl, hk, p1⟩ := h.cons
  obtain ⟨us1, ws, rfl, h1, p2⟩ := p1.split
  obtain ⟨x, hx, rfl⟩ := tx_of_fits h1
  obtain ⟨us2, ws2, rfl, h2, p3⟩ := p2.split
  obtain ⟨d, rfl, hd⟩ := h2.bytes
  obtain ⟨n, us3, rfl, hn, p4⟩ := p3.cons
  obtain ⟨m, us4, rfl, hm, p5⟩ := p4.cons
  obtain rfl := p5.nil'
  obtain ⟨k1, k2⟩ := wir_u8 hk
  obtain ⟨n1, n2⟩ := wir_i64 hn
  obtain ⟨m1, m2⟩ := wir_i64 hm
  refine ⟨⟨UInt8.ofNat k.toNat, x, d, n, m⟩, ⟨hx, hd, n1, n2, m1, m2⟩, ?_⟩
  unfold Ask.cells
  dsimp only
  rw [UInt8.toNat_ofNat', Nat.mod_eq_of_lt (by omega), Int.toNat_of_nonneg k1]
end Go.Proofs.YtbgokghmedmhaaaDoor
