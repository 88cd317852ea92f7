/-
  What is the same is not unlike.
-/
import Derived.Test.YtpnhgmmijkjmlaaDoorVConv
namespace Go.Proofs.YtpnhgmmijkjmlaaDoor
open Go Go.RowKit
set_option linter.unusedVariables false
set_option linter.unusedSimpArgs false

section
variable {P : Program} {w0 : World} {n : Nat} {ds : List Deferred} {fr : Fr} {L : List Asn} {dst : Option Nat} {ty : TypeId} {pos : String} {after : Array Edge} {gd : Option (Nat × Bool)}
theorem vq_neS {t yt : TypeId} {x y : Operand} {k : IntKind} {m : Int} (hx : evA fr x = some (.int k m)) (hy : evA fr y = some (.int k m)) : VQ P w0 n ⟨dst, .binOp .neq t x y yt, ty, pos, after, gd⟩ (.bool false) ds fr L := by
  have h := vq_ne (P := P) (w0 := w0) (n := n) (ds := ds) (L := L) (dst := dst) (ty := ty) (pos := pos) (after := after) (gd := gd) (t := t) (yt := yt) hx hy
  rwa [decide_eq_false (by simp)] at h
theorem vq_neBool {t yt : TypeId} {x y : Operand} {b c : Bool} (hx : evA fr x = some (.bool b)) (hy : evA fr y = some (.bool c)) [hu : UT P t .bool] : VQ P w0 n ⟨dst, .binOp .neq t x y yt, ty, pos, after, gd⟩ (.bool (b != c)) ds fr L :=
  vq_val (fun a w hk _ => by
    have e : (Op.equalIn (9999 + 1) t (Value.bool b) (Value.bool c)).run P w = .ok (b == c) w := by
      rw [Op.equalIn]
      simp [Sem.run_bind, run_underlying hu.out]
    simp [execOp, hk.ev hx, hk.ev hy, Sem.run_bind, eqGuard, binOp, Op.equal, Op.maxDepth]
    rw [e]; rfl)
theorem vq_neBoolS {t yt : TypeId} {x y : Operand} {b : Bool} (hx : evA fr x = some (.bool b)) (hy : evA fr y = some (.bool b)) [hu : UT P t .bool] : VQ P w0 n ⟨dst, .binOp .neq t x y yt, ty, pos, after, gd⟩ (.bool false) ds fr L := by
  have h := vq_neBool (P := P) (w0 := w0) (n := n) (ds := ds) (L := L) (dst := dst) (ty := ty) (pos := pos) (after := after) (gd := gd) (t := t) (yt := yt) hx hy
  rwa [bne_self_eq_false] at h
theorem vq_indexArrA {t e : TypeId} {agg : Bool} {size bytes : Nat} {z : List Value} {x i : Operand} {a0 : Option Addr} {k m kk : Nat} {q : IntKind} {I : Int} {vs : List Value} (hx : evA fr x = some (.pointer (offA a0 k))) (hi : evA fr i = some (.int q I)) [hu : ArI P t e m agg size bytes z] [hr : RdC w0 L a0 vs] (hl : 0 < vs.length) (h0 : 0 ≤ I) (h1 : I < m) (hk : I.toNat * size = kk) :
    VQ P w0 n ⟨dst, .indexAddr t x i, ty, pos, after, gd⟩ (.pointer (offA a0 (k + kk))) ds fr L :=
  vq_val (fun a w hkn hs => by
    subst hk
    obtain ⟨b, off, rfl, _⟩ := (hr.out w hs).read (by rintro rfl; simp at hl)
    rw [offA_some] at hx
    have hI : I.toNat < m := by omega
    simp [execOp, hkn.ev hx, hkn.ev hi, Instr.indexAt, asIntOf, run_underlying hu.arr, hu.el.run_size, h0, h1, Instr.sureAddr, addr_add, offA_some, Nat.add_assoc])
theorem vq_eqBS {t yt : TypeId} {x y : Operand} {m : Nat} {xs : List UInt8} (hx : evA fr x = some (.agg (bvs xs).toArray)) (hy : evA fr y = some (.agg (bvs xs).toArray)) [he : EqI P t (List.replicate m (some .u8))] (hlx : xs.length = m) : VQ P w0 n ⟨dst, .binOp .eql t x y yt, ty, pos, after, gd⟩ (.bool true) ds fr L :=
  vq_val (fun a w hk _ => by
    have h := run_eqAgg (o := ⟨dst, .binOp .eql t x y yt, ty, pos, after, gd⟩) (a := a) (w := w) t yt x y rfl he (bvs xs) (bvs xs) (hk.ev hx) (hk.ev hy) (hlx ▸ fits_bvs xs) (hlx ▸ fits_bvs xs) True (by simp)
    simpa using h)
end
section
variable {P : Program} {ro : Option Nat} {w0 : World} {n : Nat} {ds : List Deferred} {fr : Fr} {L : List Asn} {Q : Exit → List Deferred → Fr → List Asn → Prop} {ops : Array Oper} {rest : List Oper} {d : Nat}
/-- As vl_qA; what is the same is known to be. -/
theorem vl_qS {o : Oper} {v : Value} (hg : o.guard = none) (hd : notDefer o.op = true) (hdst : o.dst = some d) (hdn : Nat.blt d n = true) (h : VL P ro w0 n ops Q rest ds ((d, v) :: fr) L) (hq : VQ P w0 n o v ds fr L := by first | (apply vq_isBin; first | (apply vq_isOp .neq; first | exact vq_neS rfl rfl | exact vq_neBoolS rfl rfl) | (apply vq_isOp .eql; exact vq_eqBS rfl rfl (by first | assumption | (simp; done)))) | (first | exact vq_move rfl | exact vq_assign rfl | (apply vq_isBin; first | exact vq_lt rfl rfl | exact vq_eq rfl rfl | exact vq_ne rfl rfl | (apply vq_isOp .add; exact vq_add rfl rfl (by first | exact wr_add (by omega) | exact wu_add (by omega) | exact wr_id (by omega) (by omega) | rfl)) | (apply vq_isOp .sub; exact vq_minus rfl rfl (by first | exact wr_sub (by omega) (by omega) | exact wu_sub (by omega) (by omega) | exact wr_id (by omega) (by omega) | rfl)) | exact vq_gt rfl rfl | exact vq_le rfl rfl | exact vq_ge rfl rfl | (apply vq_isOp .mul; exact vq_mul rfl rfl (by first | exact wr_mul (by omega) | exact wr_id (by omega) (by omega) | rfl)) | (apply vq_isOp .or; exact vq_or rfl rfl (by rfl)) | (apply vq_isOp .and; exact vq_and rfl rfl (by rfl)) | (apply vq_isOp .xor; exact vq_xor rfl rfl (by rfl)) | (apply vq_isOp .shl; exact vq_shl rfl rfl (by omega) (by rfl)) | (apply vq_isOp .shr; exact vq_shr rfl rfl (by omega) (by rfl)) | (apply vq_isOp .quo; exact vq_quo rfl rfl (by decide) (by first | exact q8_i64 (by omega) | exact q2_u8 (by omega) | exact q4_i64 (by omega) | rfl)) | (apply vq_isOp .rem; exact vq_rem rfl rfl (by decide) (by first | exact r8 | exact r2 | exact r4 | exact r64 | rfl)) | exact vq_eqNil rfl rfl | exact vq_eqBool rfl rfl | (apply vq_isOp .eql; exact vq_eqB rfl rfl (by first | assumption | (simp; done)) (by first | assumption | (simp; done))) | (apply vq_isOp .neq; first | exact vq_neBool rfl rfl | exact vq_neB rfl rfl (by first | assumption | (simp; done)) (by first | assumption | (simp; done)))) | (apply vq_isLoad; first | (apply vq_isPt; exact rfl; first | (apply vq_isOne; exact vq_ldB rfl (by first | rfl | assumption)) | (apply vq_isPt0; exact rfl; apply vq_isAgg; exact vq_ldW rfl (by first | rfl | assumption | (simp; done) | (simp; assumption))) | (apply vq_isAgg; exact vq_ldP rfl (by assumption) (by first | assumption | (simp; done) | (simp; assumption)))) | (apply vq_isPtA; exact rfl; first | (apply vq_isOne; exact vq_ld1 rfl (by first | assumption | rfl)) | exact vq_ldA rfl (by assumption) (by first | assumption | (simp; done) | (simp; assumption))) | fail) | exact vq_lenSl rfl | (apply vq_isIx; first | (apply vq_ixSl; exact rfl; exact vq_index rfl rfl (by omega) (by omega) (by first | (simp; done) | (simp; omega) | (rw [bvs_length]; omega)) (by first | exact ix_1 | exact ix_s _ | rfl)) | (apply vq_ixPt; exact rfl; exact vq_indexArr rfl rfl (by omega) (by omega) (by first | exact ix_1 | exact ix_s _ | rfl)) | exact vq_indexArrA rfl rfl (by first | (simp; done) | (rw [bvs_length]; omega) | (simp; omega)) (by omega) (by omega) (by first | exact ix_1 | exact ix_s _ | rfl)) | exact vq_extract rfl rfl | exact vq_pickT rfl rfl | exact vq_pickF rfl rfl | exact vq_fieldAddr rfl (by rfl) rfl | exact vq_makeFunc rfl rfl | exact vq_nilCheck rfl | (apply vq_isConv; exact vq_conv rfl (by first | exact wi_id (by omega) | exact wu_id (by omega) | exact wr_id (by omega) (by omega) | rfl)) | (apply vq_isUn; first | exact vq_not rfl | exact vq_xorU rfl (by rfl) | exact vq_neg rfl (by rfl)) | (apply vq_isSlice; exact vq_slice rfl (by first | exact bnd_none | exact bnd_nat rfl) (by first | exact bnd_none | exact bnd_nat rfl) (by first | exact bnd_none | exact bnd_nat rfl) rfl (by omega) (by omega) (by omega)) | (apply vq_isBuild; first | exact vq_build0 | exact vq_buildArr0 | exact vq_build rfl rfl (by first | rfl | (simp [plOf]; done)) (by first | rfl | (simp; done)) | exact vq_buildP rfl (by first | (simp [okS, Value.cells]; done) | (simp [okS, Value.cells]; omega)) rfl) | fail)) : VL P ro w0 n ops Q (o :: rest) ds fr L := vl_q hg hd hdst hdn hq h
end
end Go.Proofs.YtpnhgmmijkjmlaaDoor
