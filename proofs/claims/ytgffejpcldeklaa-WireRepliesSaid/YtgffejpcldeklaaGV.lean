/-
  What is digested on a proof's road: plain; laws for parts. What is digested on a proof's road: the program's. One step up a proof's road: the program's. Byte strings turned round; what is digested on a proof's road, whole. What is digested on a proof's road: the document's. Roots of proofs, and whether a proof fits one. The chapter's first example; inputs stand in each other.
-/
import Derived.Test.YtgffejpcldeklaaGN
import Derived.Test.YtgffejpcldeklaaGJ
import Derived.Test.YtgffejpcldeklaaGI
import Derived.Test.YtgffejpcldeklaaTagH
set_option linter.unusedVariables false
set_option linter.unusedSimpArgs false
set_option linter.unusedSectionVars false

namespace Go.Proofs.Ytgffejpcldeklaa
open Go Go.RowKit

section
variable {P : Program} {ro : Option Nat} {w0 : World} {n : Nat} {ds : List Deferred} {fr : Fr} {L L' : List Asn} {Q : Exit → List Deferred → Fr → List Asn → Prop} {K : List Deferred → Fr → List Asn → Prop}
variable {ty : TypeId} {pos : String} {after : Array Edge} {gd : Option (Nat × Bool)} {e : TypeId} {agg : Bool} {size bytes : Nat} {z : List Value}
end
end Go.Proofs.Ytgffejpcldeklaa
namespace Go.Proofs.Ytgffejpcldeklaa
open Go Go.RowKit
open Classical

end Go.Proofs.Ytgffejpcldeklaa
namespace Go.Proofs.Ytgffejpcldeklaa
open Go Go.RowKit
open Classical

end Go.Proofs.Ytgffejpcldeklaa
namespace Go.Proofs.Ytgffejpcldeklaa
open Go Go.RowKit
open Classical

section
variable {P : Program} {ro : Option Nat} {w0 : World} {n : Nat} {ds : List Deferred} {fr : Fr} {L : List Asn}
variable {t e : TypeId} {dst : Option Nat} {ty : TypeId} {pos : String} {after : Array Edge} {gd : Option (Nat × Bool)} {agg : Bool} {size bytes : Nat} {z : List Value}
end
end Go.Proofs.Ytgffejpcldeklaa
namespace Go.Proofs.Ytgffejpcldeklaa
open Go Go.RowKit
open Classical

end Go.Proofs.Ytgffejpcldeklaa
namespace Go.Proofs.Ytgffejpcldeklaa
open Go Go.RowKit
open Classical

end Go.Proofs.Ytgffejpcldeklaa
namespace Go.Proofs.Ytgffejpcldeklaa
open Go Go.RowKit
open Classical

def prf0 : Prf := ⟨List.replicate 32 0, 0, List.replicate 32 0, none, 0, [], none, 0, []⟩
theorem prf0_ok : prf0.ok := ⟨rfl, by decide, rfl, by simp [Dg, prf0], by decide, by decide⟩
end Go.Proofs.Ytgffejpcldeklaa
