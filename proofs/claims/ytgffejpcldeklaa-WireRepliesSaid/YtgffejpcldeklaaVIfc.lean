/-
  Interface values: made of values of a type, and asked for their type.
-/
import Derived.Test.YtgffejpcldeklaaGB
set_option linter.unusedVariables false
set_option linter.unusedSimpArgs false
set_option linter.unusedSectionVars false

namespace Go.Proofs.Ytgffejpcldeklaa
open Go Go.RowKit
open Classical

def concD : TypeDesc → Bool
  | .interface _ => false
  | _ => true
/-- A type that is no interface. -/
class ConI (P : Program) (t : TypeId) : Prop where
  out : (P.underlying t).map concD = some true
/-- A type's zero. -/
class ZeI (P : Program) (t : TypeId) (zv : outParam Value) : Prop where
  out : (P.info? t).bind (fun i => i.zero) = some zv
theorem ConI.get {P : Program} {t : TypeId} (h : ConI P t) : ∃ d, P.underlying t = some d ∧ concD d = true := by
  have := h.out
  cases hu : P.underlying t with
  | none => rw [hu] at this; cases this
  | some d => rw [hu] at this; exact ⟨d, rfl, by simpa using this⟩
theorem ZeI.run {P : Program} {t : TypeId} {zv : Value} (h : ZeI P t zv) (w : World) : (zeroValue t).run P w = .ok zv w := by
  have := h.out
  cases hi : P.info? t with
  | none => rw [hi] at this; cases this
  | some i =>
    rw [hi] at this
    have h2 : i.zero = some zv := this
    simp [zeroValue, typeInfo, hi, h2]
section
variable {P : Program} {w0 : World} {n : Nat} {ds : List Deferred} {fr : Fr} {L : List Asn} {dst : Option Nat} {ty : TypeId} {pos : String} {after : Array Edge} {gd : Option (Nat × Bool)}
theorem vq_mkIface {t : TypeId} {x : Operand} {v : Value} [h : ConI P t] (hx : evA fr x = some v) : VQ P w0 n ⟨dst, .makeInterface t x, ty, pos, after, gd⟩ (.iface t v) ds fr L :=
  vq_val (fun a w hk _ => by
    obtain ⟨d, hd, hc⟩ := h.get
    cases d <;> simp [concD] at hc <;> simp [execOp, hk.ev hx, Instr.makeInterface, run_underlying hd])
theorem vq_asT {xt t : TypeId} {x : Operand} {v : Value} [h : ConI P t] (hx : evA fr x = some (.iface t v)) : VQ P w0 n ⟨dst, .typeAssert x xt t true, ty, pos, after, gd⟩ (.tuple #[v, .bool true]) ds fr L :=
  vq_val (fun a w hk _ => by
    obtain ⟨d, hd, hc⟩ := h.get
    cases d <;> simp [concD] at hc <;> simp [execOp, hk.ev hx, Instr.typeAssert, run_underlying hd])
theorem vq_asF {xt t s : TypeId} {x : Operand} {v zv : Value} [h : ConI P t] [hz : ZeI P t zv] (hx : evA fr x = some (.iface s v)) (hne : s ≠ t) : VQ P w0 n ⟨dst, .typeAssert x xt t true, ty, pos, after, gd⟩ (.tuple #[zv, .bool false]) ds fr L :=
  vq_val (fun a w hk _ => by
    obtain ⟨d, hd, hc⟩ := h.get
    have := hz.run w
    cases d <;> simp [concD] at hc <;> simp [execOp, hk.ev hx, Instr.typeAssert, run_underlying hd, hne, this])
end
instance iPart : TyI Try.prog 84 false 1 16 [.nilIface] := TyI.of (zv := .nilIface) (by kernel_rfl) (by kernel_rfl) rfl rfl (by decide)
instance cNum : ConI Try.prog 69 := ⟨by kernel_rfl⟩
instance cDig : ConI Try.prog 87 := ⟨by kernel_rfl⟩
instance cFlag : ConI Try.prog 90 := ⟨by kernel_rfl⟩
instance cByt : ConI Try.prog 94 := ⟨by kernel_rfl⟩
instance zNum : ZeI Try.prog 69 (.agg #[.pointer none, .int .i64 0, .int .i64 0]) := ⟨by kernel_rfl⟩
instance zDig : ZeI Try.prog 87 (.agg #[.pointer none]) := ⟨by kernel_rfl⟩
instance zFlag : ZeI Try.prog 90 (.agg #[.pointer none]) := ⟨by kernel_rfl⟩
end Go.Proofs.Ytgffejpcldeklaa
