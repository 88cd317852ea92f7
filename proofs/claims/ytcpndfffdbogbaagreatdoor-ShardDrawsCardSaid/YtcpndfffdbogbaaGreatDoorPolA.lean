/-
  Pools: shards, one behind the other; a key's shard; empty pools.
-/
import Derived.Test.YtcpndfffdbogbaaGreatDoorGS
set_option linter.unusedVariables false
set_option linter.unusedSimpArgs false
namespace Go.Proofs.YtcpndfffdbogbaaGreatDoor
open Go Go.RowKit
set_option linter.unusedVariables false
set_option linter.unusedSimpArgs false
open Classical

/-- A shard's content. -/
structure Sh where
  a : Option Addr
  c : Nat
  ls : List Ln
def Sh.cells (s : Sh) : List Value := [.slice s.a s.ls.length s.c]
abbrev shc (ss : List Sh) : List Value := flat Sh.cells ss
structure SsOk (ss : List Sh) : Prop where
  ok : ∀ s ∈ ss, LsOk s.ls
  len : ss.length ≤ 1000000
abbrev shl (ss : List Sh) : List (List (List UInt8 × List Tx)) := ss.map fun s => lls s.ls
theorem shs_wide (ss : List Sh) : Wide Sh.cells 1 ss := fun _ _ => rfl
theorem shs_len (ss : List Sh) : (shc ss).length = ss.length := by rw [show shc ss = flat Sh.cells ss from rfl, (shs_wide ss).len, Nat.mul_one]
section
variable {ss : List Sh}
theorem SsOk.at (h : SsOk ss) (k : Nat) (hk : k < ss.length) : LsOk (ss[k]).ls := h.ok _ (List.getElem_mem hk)
theorem SsOk.e (h : SsOk ss) (k : Nat) (hk : k < ss.length) : ((shc ss).drop (k * 1)).take 1 = [.slice ss[k].a ss[k].ls.length ss[k].c] := (shs_wide ss).at k hk
theorem SsOk.pos (h : SsOk ss) (k : Nat) (hk : k < ss.length) : 0 < (shc ss).length := by rw [shs_len]; omega
end
theorem SsOk.sub {ss ts : List Sh} (h : SsOk ss) (hs : ∀ p ∈ ts, p ∈ ss) (hl : ts.length ≤ ss.length) : SsOk ts := ⟨fun p hp => h.ok p (hs p hp), by have := h.len; omega⟩
/-- Their lines can be read. -/
class RdSs (w0 : World) (L : List Asn) (ss : List Sh) : Prop where
  out : ∀ s ∈ ss, RdC w0 L s.a (lnc s.ls) ∧ RdLs w0 L s.ls
theorem RdSs.at {w0 : World} {L : List Asn} {ss : List Sh} (h : RdSs w0 L ss) (k : Nat) (hk : k < ss.length) : RdC w0 L (ss[k]).a (lnc (ss[k]).ls) := (h.out _ (List.getElem_mem hk)).1
def sh2 (ss : List Sh) : List Asn := ss.flatMap fun s => [ownLs s.a s.c s.ls, tsA s.ls]
/-- All lines and transactions of the call's own. -/
def shA (ss : List Sh) : Asn := bundle (sh2 ss)
class HasSh (L : List Asn) (ss : List Sh) : Prop where
  out : ∃ i : Nat, L[i]? = some (shA ss)
end Go.Proofs.YtcpndfffdbogbaaGreatDoor
