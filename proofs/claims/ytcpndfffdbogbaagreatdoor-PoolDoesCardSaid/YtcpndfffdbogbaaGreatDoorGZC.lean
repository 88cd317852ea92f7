/-
  A method's value is called; what can be read of more. A field's value of a struct that is not in memory.
-/
import Derived.Test.YtcpndfffdbogbaaGreatDoorGK
set_option linter.unusedVariables false
set_option linter.unusedSimpArgs false
set_option linter.unusedSectionVars false

namespace Go.Proofs.YtcpndfffdbogbaaGreatDoor
open Go Go.RowKit
open Classical

section
variable {P : Program} {ro : Option Nat} {w0 : World} {n : Nat} {ds : List Deferred} {fr : Fr} {L : List Asn} {d : Nat} {ty : TypeId} {pos : String} {after : Array Edge} {gd : Option (Nat × Bool)} {Q : Exit → List Deferred → Fr → List Asn → Prop} {K : List Deferred → Fr → List Asn → Prop}
/-- A method's value is called. -/
theorem vo_callM {g : Nat} {f : FuncId} {fst cap : Array Value} {xs : Array Operand} {ts : Array TypeId} {args : List Value} (hg : look fr g = some (.func (.func f) fst cap)) (hx : evAs fr xs.toList = some args) [hf : FnB P f] (hdn : Nat.blt d n = true)
    (h : VC P w0 f (fst.toList ++ args ++ cap.toList) L fun v L' => K ds ((d, v) :: fr) L') : VO P ro w0 n ⟨some d, .call { callee := .value (.tmp g), args := xs, argTypes := ts }, ty, pos, after, gd⟩ K Q ds fr L :=
  vo_runs (fun _ => by simp) (fun a w hk hs => by
    refine wp_call f (fst.toList ++ args ++ cap.toList).toArray ?_ ((h.out w hs).mono fun e w' ⟨v, L', he, hs', hv⟩ => ⟨v, he, _, _, _, hk.put d _ hdn, hs', hv⟩)
    have e2 : xs.map a.eval = args.toArray := Array.ext' (by rw [Array.toList_map, hk.evs _ _ hx])
    have e3 : a.eval (.tmp g) = .func (.func f) fst cap := hk.ev (x := .tmp g) hg
    have e4 : (execOp a.eval ⟨some d, .call { callee := .value (.tmp g), args := xs, argTypes := ts }, ty, pos, after, gd⟩).run P w = ((do let d ← Deferred.ofValue (a.eval (.tmp g)) (xs.map a.eval); invoke d.target d.args) : Sem Next).run P w := rfl
    rw [e4, e3, e2]
    show (callFunc f (fst ++ args.toArray ++ cap)).run P w = _
    have e5 : (fst ++ args.toArray ++ cap) = (fst.toList ++ args ++ cap.toList).toArray := by simp
    rw [e5]
    exact hf.out _ w)
end
section
variable {P : Program} {w0 : World} {n : Nat} {ds : List Deferred} {fr : Fr} {L : List Asn} {dst : Option Nat} {ty : TypeId} {pos : String} {after : Array Edge} {gd : Option (Nat × Bool)}
/-- Bytes of which it is known whether they are the same. -/
theorem vq_eqD {t yt : TypeId} {x y : Operand} {m : Nat} {xs ys : List UInt8} (hx : evA fr x = some (.agg (bvs xs).toArray)) (hy : evA fr y = some (.agg (bvs ys).toArray)) [he : EqI P t (List.replicate m (some .u8))] (hlx : xs.length = m) (hly : ys.length = m) (h : ¬ xs = ys) : VQ P w0 n ⟨dst, .binOp .eql t x y yt, ty, pos, after, gd⟩ (.bool false) ds fr L := by
  have := vq_eqB (P := P) (w0 := w0) (n := n) (ds := ds) (fr := fr) (L := L) (dst := dst) (ty := ty) (pos := pos) (after := after) (gd := gd) (t := t) (yt := yt) hx hy hlx hly
  rwa [decide_eq_false h] at this
theorem vq_neD {t yt : TypeId} {x y : Operand} {m : Nat} {xs ys : List UInt8} (hx : evA fr x = some (.agg (bvs xs).toArray)) (hy : evA fr y = some (.agg (bvs ys).toArray)) [he : EqI P t (List.replicate m (some .u8))] (hlx : xs.length = m) (hly : ys.length = m) (h : ¬ xs = ys) : VQ P w0 n ⟨dst, .binOp .neq t x y yt, ty, pos, after, gd⟩ (.bool true) ds fr L := by
  have := vq_neB (P := P) (w0 := w0) (n := n) (ds := ds) (fr := fr) (L := L) (dst := dst) (ty := ty) (pos := pos) (after := after) (gd := gd) (t := t) (yt := yt) hx hy hlx hly
  rwa [decide_eq_false h] at this
theorem vq_eqE' {t yt : TypeId} {x y : Operand} {m : Nat} {xs ys : List UInt8} (hx : evA fr x = some (.agg (bvs xs).toArray)) (hy : evA fr y = some (.agg (bvs ys).toArray)) [he : EqI P t (List.replicate m (some .u8))] (hlx : xs.length = m) (hly : ys.length = m) (h : xs = ys) : VQ P w0 n ⟨dst, .binOp .eql t x y yt, ty, pos, after, gd⟩ (.bool true) ds fr L := by
  have := vq_eqB (P := P) (w0 := w0) (n := n) (ds := ds) (fr := fr) (L := L) (dst := dst) (ty := ty) (pos := pos) (after := after) (gd := gd) (t := t) (yt := yt) hx hy hlx hly
  rwa [decide_eq_true h] at this
theorem vq_neE' {t yt : TypeId} {x y : Operand} {m : Nat} {xs ys : List UInt8} (hx : evA fr x = some (.agg (bvs xs).toArray)) (hy : evA fr y = some (.agg (bvs ys).toArray)) [he : EqI P t (List.replicate m (some .u8))] (hlx : xs.length = m) (hly : ys.length = m) (h : xs = ys) : VQ P w0 n ⟨dst, .binOp .neq t x y yt, ty, pos, after, gd⟩ (.bool false) ds fr L := by
  have := vq_neB (P := P) (w0 := w0) (n := n) (ds := ds) (fr := fr) (L := L) (dst := dst) (ty := ty) (pos := pos) (after := after) (gd := gd) (t := t) (yt := yt) hx hy hlx hly
  rwa [decide_eq_true h] at this
end
end Go.Proofs.YtcpndfffdbogbaaGreatDoor
namespace Go.Proofs.YtcpndfffdbogbaaGreatDoor
open Go Go.RowKit

/-- A struct's field that is no aggregate, and its place. -/
class FvI (P : Program) (t : TypeId) (f : Nat) (k : outParam Nat) : Prop where
  out : (match P.underlying t with
    | some (.struct fs) => (match fs.toList[f]? with
      | some fd => Nat.beq fd.offset k && (match P.underlying fd.type with | some d => !aggB d | none => false)
      | none => false)
    | _ => false) = true
theorem run_field1 {P : Program} {t : TypeId} {f k : Nat} [h : FvI P t f k] {vs : List Value} {v : Value} (hv : vs[k]? = some v) (w : World) : (Instr.field t (.agg vs.toArray) f).run P w = .ok v w := by
  have ho := h.out
  cases hd : P.underlying t with
  | none => simp [hd] at ho
  | some d =>
    cases d with
    | struct fs =>
      simp only [hd] at ho
      cases hf : fs.toList[f]? with
      | none => simp [hf] at ho
      | some fd =>
        simp only [hf, Bool.and_eq_true] at ho
        obtain ⟨h1, h2⟩ := ho
        have h1 : fd.offset = k := Nat.eq_of_beq_eq_true h1
        have hf' : fs[f]? = some fd := by rw [← hf]; simp
        cases hu : P.underlying fd.type with
        | none => simp [hu] at h2
        | some d2 =>
          simp only [hu] at h2
          have hagg : (isAgg fd.type).run P w = .ok (aggB d2) w := by
            unfold isAgg
            rw [Sem.run_bind, run_underlying hu w]
            cases d2 <;> rfl
          have h3 : aggB d2 = false := by simpa using h2
          rw [h3] at hagg
          simp [Instr.field, run_underlying hd, hf', part, hagg, asAgg, h1, hv]
    | _ => simp [hd] at ho
section
variable {P : Program} {w0 : World} {n : Nat} {ds : List Deferred} {fr : Fr} {L : List Asn} {dst : Option Nat} {ty : TypeId} {pos : String} {after : Array Edge} {gd : Option (Nat × Bool)}
theorem vq_field1 {t : TypeId} {x : Operand} {f k : Nat} {vs : List Value} {v : Value} (hx : evA fr x = some (.agg vs.toArray)) [h : FvI P t f k] (hv : vs[k]? = some v) : VQ P w0 n ⟨dst, .field t x f, ty, pos, after, gd⟩ v ds fr L := vq_val (fun a w hk _ => by
  have := run_field1 (P := P) (t := t) (f := f) hv w
  simp [execOp, hk.ev hx, this])
end
instance fv_acct0 : FvI Tryz.prog 80 0 0 := ⟨by kernel_rfl⟩
end Go.Proofs.YtcpndfffdbogbaaGreatDoor
