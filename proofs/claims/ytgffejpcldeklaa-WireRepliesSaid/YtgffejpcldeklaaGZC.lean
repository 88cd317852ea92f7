/-
  A method's value is called; what can be read of more.
-/
import Derived.Test.YtgffejpcldeklaaGK
set_option linter.unusedVariables false
set_option linter.unusedSimpArgs false
set_option linter.unusedSectionVars false

namespace Go.Proofs.Ytgffejpcldeklaa
open Go Go.RowKit
open Classical

section
variable {P : Program} {ro : Option Nat} {w0 : World} {n : Nat} {ds : List Deferred} {fr : Fr} {L : List Asn} {d : Nat} {ty : TypeId} {pos : String} {after : Array Edge} {gd : Option (Nat × Bool)} {Q : Exit → List Deferred → Fr → List Asn → Prop} {K : List Deferred → Fr → List Asn → Prop}
/-- A method's value is called. -/
theorem vo_callM {g : Nat} {f : FuncId} {fst cap : Array Value} {xs : Array Operand} {ts : Array TypeId} {args : List Value} (hg : look fr g = some (.func (.func f) fst cap)) (hx : evAs fr xs.toList = some args) [hf : FnB P f] (hdn : Nat.blt d n = true)
    (h : VC P w0 f (fst.toList ++ args ++ cap.toList) L fun v L' => K ds ((d, v) :: fr) L') : VO P ro w0 n ⟨some d, .call { callee := .value (.tmp g), args := xs, argTypes := ts }, ty, pos, after, gd⟩ K Q ds fr L :=
  vo_runs (fun _ => by simp) (fun a w hk hs => by
    refine wp_call f (fst.toList ++ args ++ cap.toList).toArray ?_ ((h.out w hs).mono fun e w' ⟨v, L', he, hs', hv⟩ => ⟨v, he, _, _, _, hk.put d _ hdn, hs', hv⟩)
    have e2 : xs.map a.eval = args.toArray := Array.ext' (by rw [Array.toList_map, hk.evs _ _ hx])
    have e3 : a.eval (.tmp g) = .func (.func f) fst cap := hk.ev (x := .tmp g) hg
    have e4 : (execOp a.eval ⟨some d, .call { callee := .value (.tmp g), args := xs, argTypes := ts }, ty, pos, after, gd⟩).run P w = ((do let d ← Deferred.ofValue (a.eval (.tmp g)) (xs.map a.eval); invoke d.target d.args) : Sem Next).run P w := rfl
    rw [e4, e3, e2]
    show (callFunc f (fst ++ args.toArray ++ cap)).run P w = _
    have e5 : (fst ++ args.toArray ++ cap) = (fst.toList ++ args ++ cap.toList).toArray := by simp
    rw [e5]
    exact hf.out _ w)
end
theorem rdC_sei {w0 : World} {L M : List Asn} {a : Option Addr} {vs : List Value} (h : RdC w0 L a vs) (k : SEI M L) : RdC w0 M a vs := ⟨fun w hs => h.out w (SE.ent k.out w0 w hs)⟩
section
variable {P : Program} {w0 : World} {n : Nat} {ds : List Deferred} {fr : Fr} {L : List Asn} {dst : Option Nat} {ty : TypeId} {pos : String} {after : Array Edge} {gd : Option (Nat × Bool)}
end
end Go.Proofs.Ytgffejpcldeklaa
