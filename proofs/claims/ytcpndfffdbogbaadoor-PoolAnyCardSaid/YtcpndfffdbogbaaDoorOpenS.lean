/-
  What a reading of the arguments says of shards.
-/
import Derived.Test.YtcpndfffdbogbaaDoorGX
import Derived.Test.YtcpndfffdbogbaaDoorGS
import Derived.Test.YtcpndfffdbogbaaDoorGPA
set_option linter.unusedVariables false
set_option linter.unusedSimpArgs false
namespace Go.Proofs.YtcpndfffdbogbaaDoor
open Go Go.RowKit

/-- Lines that can be read. -/
structure Lns (w : World) (a : Option Addr) (cap : Nat) (ls : List Ln) : Prop where
  hcap : ls.length ≤ cap
  len : ls.length ≤ 9223372036854775807
  ln : ∀ p ∈ ls, LnR w p
  rc : Rc w a (lnc ls)
theorem Lns.rdA {w : World} {a : Option Addr} {cap : Nat} {ls : List Ln} (h : Lns w a cap ls) : RdA w a (lnc ls) := ⟨h.rc⟩
theorem Lns.wide {w : World} {a : Option Addr} {cap : Nat} {ls : List Ln} (h : Lns w a cap ls) : ∀ p ∈ ls, p.own.length = 32 ∧ (∀ x ∈ p.xs, x.ok) ∧ p.xs.length ≤ 9223372036854775807 := fun p hp => ⟨(h.ln p hp).own, (h.ln p hp).ok, (h.ln p hp).len⟩
/-- Shards that can be read. -/
structure Shs (w : World) (a : Option Addr) (n cap : Nat) (ss : List Sh) : Prop where
  hn : n = ss.length
  hcap : ss.length ≤ cap
  len : ss.length ≤ 9223372036854775807
  ln : ∀ s ∈ ss, Lns w s.a s.c s.ls
  rc : Rc w a (shc ss)
theorem Shs.rdA {w : World} {a : Option Addr} {n cap : Nat} {ss : List Sh} (h : Shs w a n cap ss) : RdA w a (shc ss) := ⟨h.rc⟩
theorem Shs.wide {w : World} {a : Option Addr} {n cap : Nat} {ss : List Sh} (h : Shs w a n cap ss) : ∀ s ∈ ss, s.ls.length ≤ 9223372036854775807 ∧ ∀ p ∈ s.ls, p.own.length = 32 ∧ (∀ x ∈ p.xs, x.ok) ∧ p.xs.length ≤ 9223372036854775807 := fun s hs =>
  ⟨(h.ln s hs).len, fun p hp => ⟨((h.ln s hs).ln p hp).own, ((h.ln s hs).ln p hp).ok, ((h.ln s hs).ln p hp).len⟩⟩
set_option maxRecDepth 100000 in
open Go.ChangeShapes Go.WideShapes Go.ChangeAt in
theorem open_int64 {H : Type} {enc : TypeId × Value → H} {W : World} {base : Nat} {v : Value} {d : DataW H} {p : List MemPlace} (hv : Value.okWide Tryd.prog W .any base 3 v) (h : DataW.Trod enc Tryd.prog W 0 (fun _ => true) true 3 v d p) :
    ∃ k : Int, v = .int .i64 k := by
  obtain ⟨n, rfl, _, _, hw⟩ := open_int Tryd.underlying3 hv h
  exact ⟨n, rfl⟩
end Go.Proofs.YtcpndfffdbogbaaDoor
