/-
  Bytes in arrays: the same, or not.
-/
import Derived.Test.YtpnhgmmijkjmlaaDoorVConv
namespace Go.Proofs.YtpnhgmmijkjmlaaDoor
open Go Go.RowKit
set_option linter.unusedVariables false
set_option linter.unusedSimpArgs false

section
variable {P : Program} {w0 : World} {n : Nat} {ds : List Deferred} {fr : Fr} {L : List Asn} {dst : Option Nat} {ty : TypeId} {pos : String} {after : Array Edge} {gd : Option (Nat × Bool)}
theorem vq_eqB {t yt : TypeId} {x y : Operand} {m : Nat} {xs ys : List UInt8} (hx : evA fr x = some (.agg (bvs xs).toArray)) (hy : evA fr y = some (.agg (bvs ys).toArray)) [he : EqI P t (List.replicate m (some .u8))] (hlx : xs.length = m) (hly : ys.length = m) : VQ P w0 n ⟨dst, .binOp .eql t x y yt, ty, pos, after, gd⟩ (.bool (decide (xs = ys))) ds fr L :=
  vq_val (fun a w hk _ => run_eqAgg t yt x y rfl he (bvs xs) (bvs ys) (hk.ev hx) (hk.ev hy) (hlx ▸ fits_bvs xs) (hly ▸ fits_bvs ys) _ bvs_eq)
theorem vq_neB {t yt : TypeId} {x y : Operand} {m : Nat} {xs ys : List UInt8} (hx : evA fr x = some (.agg (bvs xs).toArray)) (hy : evA fr y = some (.agg (bvs ys).toArray)) [he : EqI P t (List.replicate m (some .u8))] (hlx : xs.length = m) (hly : ys.length = m) : VQ P w0 n ⟨dst, .binOp .neq t x y yt, ty, pos, after, gd⟩ (.bool (!decide (xs = ys))) ds fr L :=
  vq_val (fun a w hk _ => run_neAgg t yt x y rfl he (bvs xs) (bvs ys) (hk.ev hx) (hk.ev hy) (hlx ▸ fits_bvs xs) (hly ▸ fits_bvs ys) _ bvs_eq)
end

section
variable {P : Program} {w0 : World} {n : Nat} {ds : List Deferred} {fr : Fr} {L : List Asn} {dst : Option Nat} {ty : TypeId} {pos : String} {after : Array Edge} {gd : Option (Nat × Bool)}
theorem vq_buildArr0 {t e : TypeId} {size bytes m esize ebytes : Nat} {agg : Bool} {z ez : List Value} [ht : TyI P t true size bytes z] [hf : ArI P t e m agg esize ebytes ez] : VQ P w0 n ⟨dst, .build t #[], ty, pos, after, gd⟩ (.agg z.toArray) ds fr L :=
  vq_val (fun a w hk hs => run_buildArr t #[] rfl ht hf [] rfl (by simp) z rfl)
end

end Go.Proofs.YtpnhgmmijkjmlaaDoor
