/-
  What is the same is not unlike.
-/
import Derived.Test.YtjbjidopjhllbaaVConv
namespace Go.Proofs.Ytjbjidopjhllbaa
open Go Go.RowKit
set_option linter.unusedVariables false

section
variable {P : Program} {w0 : World} {n : Nat} {ds : List Deferred} {fr : Fr} {L : List Asn} {dst : Option Nat} {ty : TypeId} {pos : String} {after : Array Edge} {gd : Option (Nat × Bool)}
theorem vq_neS {t yt : TypeId} {x y : Operand} {k : IntKind} {m : Int} (hx : evA fr x = some (.int k m)) (hy : evA fr y = some (.int k m)) : VQ P w0 n ⟨dst, .binOp .neq t x y yt, ty, pos, after, gd⟩ (.bool false) ds fr L := by
  have h := vq_ne (P := P) (w0 := w0) (n := n) (ds := ds) (L := L) (dst := dst) (ty := ty) (pos := pos) (after := after) (gd := gd) (t := t) (yt := yt) hx hy
  rwa [decide_eq_false (by simp)] at h
theorem vq_neBool {t yt : TypeId} {x y : Operand} {b c : Bool} (hx : evA fr x = some (.bool b)) (hy : evA fr y = some (.bool c)) [hu : UT P t .bool] : VQ P w0 n ⟨dst, .binOp .neq t x y yt, ty, pos, after, gd⟩ (.bool (b != c)) ds fr L :=
  vq_val (fun a w hk _ => by
    have e : (Op.equalIn (9999 + 1) t (Value.bool b) (Value.bool c)).run P w = .ok (b == c) w := by
      rw [Op.equalIn]
      simp [Sem.run_bind, run_underlying hu.out]
    simp [execOp, hk.ev hx, hk.ev hy, Sem.run_bind, eqGuard, binOp, Op.equal, Op.maxDepth]
    rw [e]; rfl)
theorem vq_neBoolS {t yt : TypeId} {x y : Operand} {b : Bool} (hx : evA fr x = some (.bool b)) (hy : evA fr y = some (.bool b)) [hu : UT P t .bool] : VQ P w0 n ⟨dst, .binOp .neq t x y yt, ty, pos, after, gd⟩ (.bool false) ds fr L := by
  have h := vq_neBool (P := P) (w0 := w0) (n := n) (ds := ds) (L := L) (dst := dst) (ty := ty) (pos := pos) (after := after) (gd := gd) (t := t) (yt := yt) hx hy
  rwa [bne_self_eq_false] at h
theorem vq_indexArrA {t e : TypeId} {agg : Bool} {size bytes : Nat} {z : List Value} {x i : Operand} {a0 : Option Addr} {k m kk : Nat} {q : IntKind} {I : Int} {vs : List Value} (hx : evA fr x = some (.pointer (offA a0 k))) (hi : evA fr i = some (.int q I)) [hu : ArI P t e m agg size bytes z] [hr : RdC w0 L a0 vs] (hl : 0 < vs.length) (h0 : 0 ≤ I) (h1 : I < m) (hk : I.toNat * size = kk) :
    VQ P w0 n ⟨dst, .indexAddr t x i, ty, pos, after, gd⟩ (.pointer (offA a0 (k + kk))) ds fr L :=
  vq_val (fun a w hkn hs => by
    subst hk
    obtain ⟨b, off, rfl, _⟩ := (hr.out w hs).read (by rintro rfl; simp at hl)
    rw [offA_some] at hx
    have hI : I.toNat < m := by omega
    simp [execOp, hkn.ev hx, hkn.ev hi, Instr.indexAt, asIntOf, run_underlying hu.arr, hu.el.run_size, h0, h1, Instr.sureAddr, addr_add, offA_some, Nat.add_assoc])
end
end Go.Proofs.Ytjbjidopjhllbaa
