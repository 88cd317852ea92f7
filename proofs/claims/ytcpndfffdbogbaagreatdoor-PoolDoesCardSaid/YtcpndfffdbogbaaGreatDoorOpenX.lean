/-
  An argument that is a slice of transactions.
-/
import Derived.Test.YtcpndfffdbogbaaGreatDoorGX
set_option linter.unusedVariables false
set_option linter.unusedSimpArgs false
set_option linter.unusedSectionVars false

namespace Go.Proofs.YtcpndfffdbogbaaGreatDoor
open Go Go.RowKit

/-- Transactions that can be read. -/
structure Txs (w : World) (a : Option Addr) (n cap : Nat) (xs : List Tx) : Prop where
  hn : n = xs.length
  hcap : xs.length ≤ cap
  len : xs.length ≤ 9223372036854775807
  ok : ∀ x ∈ xs, x.ok
  rc : Rc w a (txc xs)
theorem Txs.rdA {w : World} {a : Option Addr} {n cap : Nat} {xs : List Tx} (h : Txs w a n cap xs) : RdA w a (txc xs) := ⟨h.rc⟩
set_option maxRecDepth 100000 in
open Go.ChangeShapes Go.WideShapes Go.ChangeAt in
theorem open_txs {H : Type} {enc : TypeId × Value → H} {W : World} {base : Nat} {v : Value} {d : DataW H} {p : List MemPlace} (hv : Value.okWide Tryz.prog W .any base 28 v) (h : DataW.Trod enc Tryz.prog W 0 (fun _ => true) true 28 v d p) :
    ∃ a n cap xs, v = .slice a n cap ∧ Txs W a n cap xs := by
  obtain ⟨a0, len0, cap0, rfl⟩ := okWide_slice Tryz.underlying28 hv
  obtain ⟨fuel, hf⟩ := h
  obtain ⟨a, cap, xs, e, h1, h2, h3, h4⟩ := open_slice Tryz.underlying28 (c := 99) (by kernel_rfl) (by decide) Tx.cells (fun x => x.ok) (fun n cs y _ hy => trod_tx hy) hf
  refine ⟨_, _, _, xs, rfl, ?_⟩
  simp only [Value.slice.injEq] at e
  obtain ⟨rfl, rfl, rfl⟩ := e
  exact ⟨rfl, h1, by have : maxLen ≤ 9223372036854775807 := by decide
                     omega, fun p hp => (h4 p hp).1, h3⟩
end Go.Proofs.YtcpndfffdbogbaaGreatDoor
