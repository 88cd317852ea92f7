/-
  A request's parts are read.
-/
import Derived.Test.YtgffejpcldeklaaWirE
set_option linter.unusedVariables false
set_option linter.unusedSimpArgs false
set_option linter.unusedSectionVars false

namespace Go.Proofs.Ytgffejpcldeklaa
open Go Go.RowKit
open Classical

theorem dropX_le (n : Nat) (r : List UInt8) : (dropX n r).length ≤ r.length := by
  unfold dropX
  split
  · simp
  · simp
theorem step_le (p : Pt) (s : RS) : (p.step s).r.length ≤ s.r.length := by
  cases p <;> exact dropX_le _ _
section
variable {P : Program} {w0 : World} {n : Nat} {ds : List Deferred} {fr : Fr} {L : List Asn} {dst : Option Nat} {ty : TypeId} {pos : String} {after : Array Edge} {gd : Option (Nat × Bool)}
theorem vq_minU {ts : Array TypeId} {x y : Operand} {m k : Nat} (hx : evA fr x = some (.int .u64 m)) (hy : evA fr y = some (.int .u64 k)) : VQ P w0 n ⟨dst, .call { callee := .builtin .min, args := #[x, y], argTypes := ts }, ty, pos, after, gd⟩ (.int .u64 ((min m k : Nat) : Int)) ds fr L := vq_val (fun a w hk _ => by
  have e : (if (k : Int) < (m : Int) then (k : Int) else (m : Int)) = ((min m k : Nat) : Int) := by split <;> omega
  simp only [← e]
  simp [execOp, resolve, invoke, builtin, hk.ev hx, hk.ev hy, Builtin.min_, Builtin.min2])
end
end Go.Proofs.Ytgffejpcldeklaa
