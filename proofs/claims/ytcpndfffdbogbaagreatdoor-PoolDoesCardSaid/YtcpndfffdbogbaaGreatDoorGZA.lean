/-
  Shards: the chapter's first examples. Shards: the chapter's shard, and what holds of it. What is submitted to a shard is there, and all else stays: the law.
-/
import Derived.Test.YtcpndfffdbogbaaGreatDoorGU
import Derived.Test.YtcpndfffdbogbaaGreatDoorVStates
import Derived.Test.YtcpndfffdbogbaaGreatDoorGS
set_option linter.unusedVariables false
set_option linter.unusedSimpArgs false
set_option linter.unusedSectionVars false

namespace Go.Proofs.YtcpndfffdbogbaaGreatDoor
open Go Go.RowKit

def kF (p : UInt8) : List UInt8 := sha (tagB 3 [dig1 p])
open Classical

def oneF (p : UInt8) (n f : Nat) : Tx := signed ⟨dig1 p, z32, n, 0, f, z32⟩
def x1 : Tx := oneF 1 0 5
def x2 : Tx := oneF 1 1 5
def cs1 : List LC := [(kF 1, [x1])]
def cs2 : List LC := [(kF 1, [x1, x2])]
end Go.Proofs.YtcpndfffdbogbaaGreatDoor
namespace Go.Proofs.YtcpndfffdbogbaaGreatDoor
open Go Go.RowKit
open Classical

/-- What is told of a shard: its memory is new; its content is known. -/
def RShC (cs : List LC) (L : List Asn) (v : Value) (L' : List Asn) : Prop := ∃ a c ms, v = .agg #[.slice a ms.length c] ∧ lls ms = cs ∧ LsOk ms ∧ L' = ownLs a c ms :: tsA ms :: L
end Go.Proofs.YtcpndfffdbogbaaGreatDoor
namespace Go.Proofs.YtcpndfffdbogbaaGreatDoor
open Go Go.RowKit
open Classical

section
variable {P : Program} {w0 : World} {n : Nat} {ds : List Deferred} {fr : Fr} {L : List Asn} {dst : Option Nat} {ty : TypeId} {pos : String} {after : Array Edge} {gd : Option (Nat × Bool)}
/-- Transactions of which it is known whether they are the same. -/
theorem vq_eqTxD {t yt : TypeId} {a b : Operand} {x y : Tx} (hx : evA fr a = some (.agg x.cells.toArray)) (hy : evA fr b = some (.agg y.cells.toArray)) [he : EqI P t txShape] (hox : x.ok) (hoy : y.ok) (h : ¬ x = y) : VQ P w0 n ⟨dst, .binOp .eql t a b yt, ty, pos, after, gd⟩ (.bool false) ds fr L := by
  have := vq_eqTx (P := P) (w0 := w0) (n := n) (ds := ds) (fr := fr) (L := L) (dst := dst) (ty := ty) (pos := pos) (after := after) (gd := gd) (t := t) (yt := yt) hx hy hox hoy
  rwa [decide_eq_false h] at this
theorem vq_eqTxE {t yt : TypeId} {a b : Operand} {x y : Tx} (hx : evA fr a = some (.agg x.cells.toArray)) (hy : evA fr b = some (.agg y.cells.toArray)) [he : EqI P t txShape] (hox : x.ok) (hoy : y.ok) (h : x = y) : VQ P w0 n ⟨dst, .binOp .eql t a b yt, ty, pos, after, gd⟩ (.bool true) ds fr L := by
  have := vq_eqTx (P := P) (w0 := w0) (n := n) (ds := ds) (fr := fr) (L := L) (dst := dst) (ty := ty) (pos := pos) (after := after) (gd := gd) (t := t) (yt := yt) hx hy hox hoy
  rwa [decide_eq_true h] at this
theorem vq_neTxD {t yt : TypeId} {a b : Operand} {x y : Tx} (hx : evA fr a = some (.agg x.cells.toArray)) (hy : evA fr b = some (.agg y.cells.toArray)) [he : EqI P t txShape] (hox : x.ok) (hoy : y.ok) (h : ¬ x = y) : VQ P w0 n ⟨dst, .binOp .neq t a b yt, ty, pos, after, gd⟩ (.bool true) ds fr L := by
  have := vq_neTx (P := P) (w0 := w0) (n := n) (ds := ds) (fr := fr) (L := L) (dst := dst) (ty := ty) (pos := pos) (after := after) (gd := gd) (t := t) (yt := yt) hx hy hox hoy
  rwa [decide_eq_false h] at this
end
theorem LsOk.of0 {ls : List Ln} (hw : ∀ p ∈ ls, p.own.length = 32 ∧ (∀ x ∈ p.xs, x.ok) ∧ p.xs.length ≤ 9223372036854775807) (h6 : ls.length ≤ 6 ∧ ∀ x ∈ ls, x.xs.length ≤ 20) : LsOk ls :=
  ⟨fun l hl => ⟨(hw l hl).1, ⟨(hw l hl).2.1, by have := h6.2 l hl; omega⟩⟩, by omega⟩
theorem submitS_ok {ls ms : List Ln} {cap : Int} {nonce : Nat} {x : Tx} (h : LsOk ls) (hx : x.ok) : TsOk (submitS (lls ls) cap nonce x).2.1 := by
  have h1 : TsOk ([] : List Tx) := TsOk.nil
  unfold submitS
  split
  · unfold submitC
    repeat' split
    all_goals first | exact h1 | skip
    · rename_i y hy hf
      exact ⟨fun z hz => by rw [List.mem_singleton.1 hz]; exact (lineC_ok h _).ok _ (atT_in hy), by simp⟩
    · rename_i w hw hf
      have hm := List.mem_of_getElem? hw
      obtain ⟨l, hl, e⟩ := List.mem_map.1 hm
      have := (h.ok l hl).ts
      rw [show l.xs = w.2 from congrArg Prod.snd e] at this
      exact ⟨fun z hz => this.ok z (List.mem_of_mem_drop hz), by have := this.len; rw [List.length_drop]; omega⟩
  · exact h1
end Go.Proofs.YtcpndfffdbogbaaGreatDoor
