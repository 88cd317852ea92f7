/-
  A method's value is called; what can be read of more. A field's value of a struct that is not in memory.
-/
import Derived.Test.YtcpndfffdbogbaaGreatDoorGK
set_option linter.unusedVariables false
set_option linter.unusedSimpArgs false
namespace Go.Proofs.YtcpndfffdbogbaaGreatDoor
open Go Go.RowKit
set_option linter.unusedVariables false
set_option linter.unusedSimpArgs false
open Classical

section
variable {P : Program} {ro : Option Nat} {w0 : World} {n : Nat} {ds : List Deferred} {fr : Fr} {L : List Asn} {d : Nat} {ty : TypeId} {pos : String} {after : Array Edge} {gd : Option (Nat × Bool)} {Q : Exit → List Deferred → Fr → List Asn → Prop} {K : List Deferred → Fr → List Asn → Prop}
/-- A method's value is called. -/
theorem vo_callM {g : Nat} {f : FuncId} {fst cap : Array Value} {xs : Array Operand} {ts : Array TypeId} {args : List Value} (hg : look fr g = some (.func (.func f) fst cap)) (hx : evAs fr xs.toList = some args) [hf : FnB P f] (hdn : Nat.blt d n = true)
    (h : VC P w0 f (fst.toList ++ args ++ cap.toList) L fun v L' => K ds ((d, v) :: fr) L') : VO P ro w0 n ⟨some d, .call { callee := .value (.tmp g), args := xs, argTypes := ts }, ty, pos, after, gd⟩ K Q ds fr L :=
  vo_runs (fun _ => by simp) (fun a w hk hs => by
    refine wp_call f (fst.toList ++ args ++ cap.toList).toArray ?_ ((h.out w hs).mono fun e w' ⟨v, L', he, hs', hv⟩ => ⟨v, he, _, _, _, hk.put d _ hdn, hs', hv⟩)
    have e2 : xs.map a.eval = args.toArray := Array.ext' (by rw [Array.toList_map, hk.evs _ _ hx])
    have e3 : a.eval (.tmp g) = .func (.func f) fst cap := hk.ev (x := .tmp g) hg
    have e4 : (execOp a.eval ⟨some d, .call { callee := .value (.tmp g), args := xs, argTypes := ts }, ty, pos, after, gd⟩).run P w = ((do let d ← Deferred.ofValue (a.eval (.tmp g)) (xs.map a.eval); invoke d.target d.args) : Sem Next).run P w := rfl
    rw [e4, e3, e2]
    show (callFunc f (fst ++ args.toArray ++ cap)).run P w = _
    have e5 : (fst ++ args.toArray ++ cap) = (fst.toList ++ args ++ cap.toList).toArray := by simp
    rw [e5]
    exact hf.out _ w)
end
section
variable {P : Program} {w0 : World} {n : Nat} {ds : List Deferred} {fr : Fr} {L : List Asn} {dst : Option Nat} {ty : TypeId} {pos : String} {after : Array Edge} {gd : Option (Nat × Bool)}
/-- Bytes of which it is known whether they are the same. -/
theorem vq_eqD {t yt : TypeId} {x y : Operand} {m : Nat} {xs ys : List UInt8} (hx : evA fr x = some (.agg (bvs xs).toArray)) (hy : evA fr y = some (.agg (bvs ys).toArray)) [he : EqI P t (List.replicate m (some .u8))] (hlx : xs.length = m) (hly : ys.length = m) (h : ¬ xs = ys) : VQ P w0 n ⟨dst, .binOp .eql t x y yt, ty, pos, after, gd⟩ (.bool false) ds fr L := by
  have := vq_eqB (P := P) (w0 := w0) (n := n) (ds := ds) (fr := fr) (L := L) (dst := dst) (ty := ty) (pos := pos) (after := after) (gd := gd) (t := t) (yt := yt) hx hy hlx hly
  rwa [decide_eq_false h] at this
theorem vq_neD {t yt : TypeId} {x y : Operand} {m : Nat} {xs ys : List UInt8} (hx : evA fr x = some (.agg (bvs xs).toArray)) (hy : evA fr y = some (.agg (bvs ys).toArray)) [he : EqI P t (List.replicate m (some .u8))] (hlx : xs.length = m) (hly : ys.length = m) (h : ¬ xs = ys) : VQ P w0 n ⟨dst, .binOp .neq t x y yt, ty, pos, after, gd⟩ (.bool true) ds fr L := by
  have := vq_neB (P := P) (w0 := w0) (n := n) (ds := ds) (fr := fr) (L := L) (dst := dst) (ty := ty) (pos := pos) (after := after) (gd := gd) (t := t) (yt := yt) hx hy hlx hly
  rwa [decide_eq_false h] at this
theorem vq_eqE' {t yt : TypeId} {x y : Operand} {m : Nat} {xs ys : List UInt8} (hx : evA fr x = some (.agg (bvs xs).toArray)) (hy : evA fr y = some (.agg (bvs ys).toArray)) [he : EqI P t (List.replicate m (some .u8))] (hlx : xs.length = m) (hly : ys.length = m) (h : xs = ys) : VQ P w0 n ⟨dst, .binOp .eql t x y yt, ty, pos, after, gd⟩ (.bool true) ds fr L := by
  have := vq_eqB (P := P) (w0 := w0) (n := n) (ds := ds) (fr := fr) (L := L) (dst := dst) (ty := ty) (pos := pos) (after := after) (gd := gd) (t := t) (yt := yt) hx hy hlx hly
  rwa [decide_eq_true h] at this
theorem vq_neE' {t yt : TypeId} {x y : Operand} {m : Nat} {xs ys : List UInt8} (hx : evA fr x = some (.agg (bvs xs).toArray)) (hy : evA fr y = some (.agg (bvs ys).toArray)) [he : EqI P t (List.replicate m (some .u8))] (hlx : xs.length = m) (hly : ys.length = m) (h : xs = ys) : VQ P w0 n ⟨dst, .binOp .neq t x y yt, ty, pos, after, gd⟩ (.bool false) ds fr L := by
  have := vq_neB (P := P) (w0 := w0) (n := n) (ds := ds) (fr := fr) (L := L) (dst := dst) (ty := ty) (pos := pos) (after := after) (gd := gd) (t := t) (yt := yt) hx hy hlx hly
  rwa [decide_eq_true h] at this
end
end Go.Proofs.YtcpndfffdbogbaaGreatDoor
namespace Go.Proofs.YtcpndfffdbogbaaGreatDoor
open Go Go.RowKit
set_option linter.unusedVariables false
set_option linter.unusedSimpArgs false

/-- A struct's field that is no aggregate, and its place. -/
class FvI (P : Program) (t : TypeId) (f : Nat) (k : outParam Nat) : Prop where
  out : (match P.underlying t with
    | some (.struct fs) => (match fs.toList[f]? with
      | some fd => Nat.beq fd.offset k && (match P.underlying fd.type with | some d => !aggB d | none => false)
      | none => false)
    | _ => false) = true
section
variable {P : Program} {w0 : World} {n : Nat} {ds : List Deferred} {fr : Fr} {L : List Asn} {dst : Option Nat} {ty : TypeId} {pos : String} {after : Array Edge} {gd : Option (Nat × Bool)}
end
end Go.Proofs.YtcpndfffdbogbaaGreatDoor
