/-
  What is digested on a proof's road: plain; laws for parts. What is digested on a proof's road: the program's. One step up a proof's road: the program's. Byte strings turned round; what is digested on a proof's road, whole. What is digested on a proof's road: the document's. Roots of proofs, and whether a proof fits one. The chapter's first example; inputs stand in each other.
-/
import Derived.Test.YtbgokghmedmhaaaDoorGN
import Derived.Test.YtbgokghmedmhaaaDoorGJ
import Derived.Test.YtbgokghmedmhaaaDoorGI
import Derived.Test.YtbgokghmedmhaaaDoorTagH
set_option linter.unusedVariables false
set_option linter.unusedSimpArgs false
namespace Go.Proofs.YtbgokghmedmhaaaDoor
open Go Go.RowKit
set_option linter.unusedVariables false
set_option linter.unusedSimpArgs false

/-- What is digested of a proof's end; one step up; all from a place on. -/
def endB (p : Prf) : List UInt8 := if p.kind = 1 then tagB 1 [p.key, p.vl] else if p.kind = 2 then tagB 1 [p.other, p.vl] else tagB 0 []
def stepB (key : List UInt8) (i : Nat) (side r : List UInt8) : List UInt8 := if bitAt key i = 0 then tagB 2 [sha r, side] else tagB 2 [side, sha r]
def fromB (p : Prf) : Nat → List (List UInt8)
  | 0 => [endB p]
  | j + 1 => stepB p.key (p.pl.length - (j + 1)) (p.pl.getD (p.pl.length - (j + 1)) []) ((fromB p j).headD []) :: fromB p j
section
variable {P : Program} {ro : Option Nat} {w0 : World} {n : Nat} {ds : List Deferred} {fr : Fr} {L L' : List Asn} {Q : Exit → List Deferred → Fr → List Asn → Prop} {K : List Deferred → Fr → List Asn → Prop}
variable {ty : TypeId} {pos : String} {after : Array Edge} {gd : Option (Nat × Bool)} {e : TypeId} {agg : Bool} {size bytes : Nat} {z : List Value}
end
end Go.Proofs.YtbgokghmedmhaaaDoor
namespace Go.Proofs.YtbgokghmedmhaaaDoor
open Go Go.RowKit
set_option linter.unusedVariables false
set_option linter.unusedSimpArgs false
open Classical

end Go.Proofs.YtbgokghmedmhaaaDoor
namespace Go.Proofs.YtbgokghmedmhaaaDoor
open Go Go.RowKit
set_option linter.unusedVariables false
set_option linter.unusedSimpArgs false
open Classical

/-- What the closure holds. -/
abbrev vinM (L : List Asn) (go gp : Nat) (cs : List Value) (a : Option Addr) (c : Nat) (qs : List PB) : List Asn := own 27 1 a qs.length c (pbs qs) :: blk go 109 [.slice a qs.length c] :: blk gp 30 cs :: psA qs :: L
end Go.Proofs.YtbgokghmedmhaaaDoor
namespace Go.Proofs.YtbgokghmedmhaaaDoor
open Go Go.RowKit
set_option linter.unusedVariables false
set_option linter.unusedSimpArgs false
open Classical

section
variable {P : Program} {ro : Option Nat} {w0 : World} {n : Nat} {ds : List Deferred} {fr : Fr} {L : List Asn}
variable {t e : TypeId} {dst : Option Nat} {ty : TypeId} {pos : String} {after : Array Edge} {gd : Option (Nat × Bool)} {agg : Bool} {size bytes : Nat} {z : List Value}
end
end Go.Proofs.YtbgokghmedmhaaaDoor
namespace Go.Proofs.YtbgokghmedmhaaaDoor
open Go Go.RowKit
set_option linter.unusedVariables false
set_option linter.unusedSimpArgs false
open Classical

end Go.Proofs.YtbgokghmedmhaaaDoor
namespace Go.Proofs.YtbgokghmedmhaaaDoor
open Go Go.RowKit
set_option linter.unusedVariables false
set_option linter.unusedSimpArgs false
open Classical

/-- A proof's root. -/
noncomputable def Prf.root (p : Prf) : List UInt8 := if p.may then sha ((fromB p p.pl.length).headD []) else List.replicate 32 0
noncomputable def Prf.ins (p : Prf) : List (List UInt8) := if p.may then fromB p p.pl.length else []
/-- What is digested, and the error: all of it the call's own. -/
def RIns (w0 : World) (L : List Asn) (p : Prf) (v : Value) (L' : List Asn) : Prop := ∃ a c qs, v = .tuple #[.slice a qs.length c, .int .i64 (if p.may then 0 else 8)] ∧ ls qs = p.ins ∧ L' = own 27 1 a qs.length c (pbs qs) :: psA qs :: L
end Go.Proofs.YtbgokghmedmhaaaDoor
namespace Go.Proofs.YtbgokghmedmhaaaDoor
open Go Go.RowKit
set_option linter.unusedVariables false
set_option linter.unusedSimpArgs false
open Classical

def prf0 : Prf := ⟨List.replicate 32 0, 0, List.replicate 32 0, none, 0, [], none, 0, []⟩
theorem prf0_ok : prf0.ok := ⟨rfl, by decide, rfl, by simp [Dg, prf0], by decide, by decide⟩
end Go.Proofs.YtbgokghmedmhaaaDoor
