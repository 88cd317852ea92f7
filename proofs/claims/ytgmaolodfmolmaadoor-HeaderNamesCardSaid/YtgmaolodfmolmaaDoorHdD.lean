/-
  Headers and their bytes are one to one; == on headers.
-/
import Derived.Test.YtgmaolodfmolmaaDoorHdC
import Derived.Test.YtgmaolodfmolmaaDoorTagH
import Derived.Test.YtgmaolodfmolmaaDoorGC
set_option linter.unusedVariables false
set_option linter.unusedSimpArgs false
namespace Go.Proofs.YtgmaolodfmolmaaDoor
open Go Go.RowKit
set_option linter.unusedVariables false
set_option linter.unusedSimpArgs false

deriving instance DecidableEq for Hd
theorem Hd.fits {x : Hd} (h : x.ok) : Fits hdShape x.cells := by
  have a := fits_bvs x.parent
  have b := fits_bvs x.state
  have c := fits_bvs x.rows
  rw [h.parent] at a
  rw [h.state] at b
  rw [h.rows] at c
  exact ⟨⟨_, rfl⟩, a.append (b.append (c.append ⟨⟨_, rfl⟩, trivial⟩))⟩
theorem Hd.inj {x y : Hd} (h : x.ok) (k : y.ok) : x.cells = y.cells ↔ x = y := by
  refine ⟨fun e => ?_, fun e => by rw [e]⟩
  unfold Hd.cells at e
  simp only [List.cons.injEq, Value.int.injEq, true_and] at e
  obtain ⟨e0, e⟩ := e
  obtain ⟨e1, e⟩ := List.append_inj e (by simp [h.parent, k.parent])
  obtain ⟨e2, e⟩ := List.append_inj e (by simp [h.state, k.state])
  obtain ⟨e3, e4⟩ := List.append_inj e (by simp [h.rows, k.rows])
  simp only [List.cons.injEq, Value.int.injEq, true_and, and_true] at e4
  obtain ⟨n, p, s, r, m⟩ := x
  obtain ⟨n', p', s', r', m'⟩ := y
  simp only at e0 e1 e2 e3 e4
  have := bvs_inj e1
  have := bvs_inj e2
  have := bvs_inj e3
  simp only [Hd.mk.injEq]
  refine ⟨e0, by assumption, by assumption, by assumption, e4⟩
theorem hBytes_inj {x y : Hd} (h : x.ok) (k : y.ok) (hm : x.may = true) (km : y.may = true) (e : hBytes x = hBytes y) : x = y := by
  have hmay := of_decide_eq_true hm
  have kmay := of_decide_eq_true km
  unfold hBytes at e
  obtain ⟨e0, e⟩ := List.append_inj e (by simp [digs_length])
  obtain ⟨e1, e⟩ := List.append_inj e (by rw [h.parent, k.parent])
  obtain ⟨e2, e⟩ := List.append_inj e (by rw [h.state, k.state])
  obtain ⟨e3, e4⟩ := List.append_inj e (by rw [h.rows, k.rows])
  have i0 := congrArg numOf e0
  have i4 := congrArg numOf e4
  rw [numOf_digs 8 _ (by decide) (by show x.height.toNat < 18446744073709551616; omega), numOf_digs 8 _ (by decide) (by show y.height.toNat < 18446744073709551616; omega)] at i0
  rw [numOf_digs 4 _ (by decide) (by show x.many.toNat < 4294967296; omega), numOf_digs 4 _ (by decide) (by show y.many.toNat < 4294967296; omega)] at i4
  obtain ⟨n, p, s, r, m⟩ := x
  obtain ⟨n', p', s', r', m'⟩ := y
  simp only at *
  simp only [Hd.mk.injEq]
  refine ⟨by omega, e1, e2, e3, by omega⟩
section
variable {P : Program} {w0 : World} {n : Nat} {ds : List Deferred} {fr : Fr} {L : List Asn} {dst : Option Nat} {ty : TypeId} {pos : String} {after : Array Edge} {gd : Option (Nat × Bool)}
theorem vq_eqHd {t yt : TypeId} {a b : Operand} {x y : Hd} (hx : evA fr a = some (.agg x.cells.toArray)) (hy : evA fr b = some (.agg y.cells.toArray)) [he : EqI P t hdShape] (hox : x.ok) (hoy : y.ok) : VQ P w0 n ⟨dst, .binOp .eql t a b yt, ty, pos, after, gd⟩ (.bool (decide (x = y))) ds fr L :=
  vq_val (fun u w hk _ => run_eqAgg t yt a b rfl he x.cells y.cells (hk.ev hx) (hk.ev hy) (Hd.fits hox) (Hd.fits hoy) _ (Hd.inj hox hoy))
theorem vq_eqHdS {t yt : TypeId} {a b : Operand} {x : Hd} (hx : evA fr a = some (.agg x.cells.toArray)) (hy : evA fr b = some (.agg x.cells.toArray)) [he : EqI P t hdShape] (hox : x.ok) : VQ P w0 n ⟨dst, .binOp .eql t a b yt, ty, pos, after, gd⟩ (.bool true) ds fr L := by
  have h := vq_eqHd (P := P) (w0 := w0) (n := n) (ds := ds) (L := L) (dst := dst) (ty := ty) (pos := pos) (after := after) (gd := gd) (t := t) (yt := yt) hx hy hox hox
  rwa [decide_eq_true rfl] at h
end
/-- The chapter's first example. -/
def h258 : Hd := ⟨258, List.replicate 32 0, List.replicate 32 0, List.replicate 32 0, 3⟩
theorem h258_ok : h258.ok := ⟨by simp [h258], by simp [h258], by simp [h258]⟩
theorem h258_may : h258.may = true := by decide
theorem h258_bytes : hBytes h258 = List.replicate 6 0 ++ [1, 2] ++ List.replicate 99 0 ++ [3] := by decide
set_option maxRecDepth 100000 in
theorem alive14_vc (w0 : World) (L : List Asn) : VC Tryd.prog w0 7 [] L fun v L' => v = .bool true ∧ L' = L := by
  have hlen := Hd.len h258_ok
  refine vc_ent ?_
  refine vc_in rfl rfl ?_
  repeat' (first | (refine go1 ?_; intros) | (refine vl_caseG rfl rfl rfl rfl ?_ ?_ <;> (intro hb; (try simp only [decide_eq_true_eq, decide_eq_false_iff_not, Bool.not_eq_true', Bool.not_eq_false', ne_eq, Decidable.not_not, Option.isNone_iff_eq_none, not_true_eq_false, not_false_eq_true] at hb); try (exfalso; omega))) | (refine v_cond rfl ?_ ?_ <;> (intro hb; (try simp only [decide_eq_true_eq, decide_eq_false_iff_not, Bool.not_eq_true', Bool.not_eq_false', ne_eq, Decidable.not_not, Option.isNone_iff_eq_none, not_true_eq_false, not_false_eq_true] at hb); try (exfalso; omega))) | fail)
  refine vl_o rfl (vo_call rfl rfl ?_)
  refine vc_mono (hbytes_vc w0 _ h258 h258_ok h258_may) ?_
  rintro v L' ⟨a1, c1, rfl, rfl⟩
  repeat' (first | (refine go1 ?_; intros) | (refine vl_caseG rfl rfl rfl rfl ?_ ?_ <;> (intro hb; (try simp only [decide_eq_true_eq, decide_eq_false_iff_not, Bool.not_eq_true', Bool.not_eq_false', ne_eq, Decidable.not_not, Option.isNone_iff_eq_none, not_true_eq_false, not_false_eq_true] at hb); try (exfalso; omega))) | (refine v_cond rfl ?_ ?_ <;> (intro hb; (try simp only [decide_eq_true_eq, decide_eq_false_iff_not, Bool.not_eq_true', Bool.not_eq_false', ne_eq, Decidable.not_not, Option.isNone_iff_eq_none, not_true_eq_false, not_false_eq_true] at hb); try (exfalso; omega))) | fail)
  refine vl_o rfl (vo_make (m := 108) rfl rfl rfl (by omega) (by omega) rfl ?_)
  intro g
  rw [madeB 108]
  repeat' (first | (refine go1 ?_; intros) | (refine vl_caseG rfl rfl rfl rfl ?_ ?_ <;> (intro hb; (try simp only [decide_eq_true_eq, decide_eq_false_iff_not, Bool.not_eq_true', Bool.not_eq_false', ne_eq, Decidable.not_not, Option.isNone_iff_eq_none, not_true_eq_false, not_false_eq_true] at hb); try (exfalso; omega))) | (refine v_cond rfl ?_ ?_ <;> (intro hb; (try simp only [decide_eq_true_eq, decide_eq_false_iff_not, Bool.not_eq_true', Bool.not_eq_false', ne_eq, Decidable.not_not, Option.isNone_iff_eq_none, not_true_eq_false, not_false_eq_true] at hb); try (exfalso; omega))) | fail)
  have e : splice (splice (splice (bvs (List.replicate 108 0)) 6 [Value.int IntKind.u8 1]) 7 [Value.int IntKind.u8 2]) 107 [Value.int IntKind.u8 3] = bvs (hBytes h258) := rfl
  rw [e]
  have hBl := hBytes_length h258_ok
  haveI hg : ∀ M, RdC w0 (own 5 1 (some ⟨g, 0, none⟩) 108 108 (bvs (hBytes h258)) :: M) (some ⟨g, 0, none⟩) (bvs (hBytes h258)) := fun M => inferInstance
  refine vl_o rfl (vo_call rfl rfl ?_)
  refine vc_mono (same_vc w0 _ a1 c1 (hBytes h258) (some ⟨g, 0, none⟩) 108 (hBytes h258) rfl hBl.symm) ?_
  rintro v L' ⟨rfl, rfl⟩
  rw [decide_eq_true (rfl : hBytes h258 = hBytes h258)]
  repeat' (first | (refine go1 ?_; intros) | (refine vl_caseG rfl rfl rfl rfl ?_ ?_ <;> (intro hb; (try simp only [decide_eq_true_eq, decide_eq_false_iff_not, Bool.not_eq_true', Bool.not_eq_false', ne_eq, Decidable.not_not, Option.isNone_iff_eq_none, not_true_eq_false, not_false_eq_true] at hb); try (exfalso; omega))) | (refine v_cond rfl ?_ ?_ <;> (intro hb; (try simp only [decide_eq_true_eq, decide_eq_false_iff_not, Bool.not_eq_true', Bool.not_eq_false', ne_eq, Decidable.not_not, Option.isNone_iff_eq_none, not_true_eq_false, not_false_eq_true] at hb); try (exfalso; omega))) | fail)
  exact ⟨_, ((se_drop _ _).trans (se_drop _ _)).ent w0, rfl, rfl⟩
theorem follows_parts {h p : Hd} (e : follows h p = true) : p.may = true ∧ h.parent = hHash p := by
  have := of_decide_eq_true e
  exact ⟨this.2.1, this.2.2.2⟩
/-- Parts that may be read, each by itself. -/
theorem rdPs1 {w0 : World} {L : List Asn} {a : Option Addr} {c : Nat} {l : List UInt8} [h : RdC w0 L a (bvs l)] : RdPs w0 L [⟨a, c, l⟩] := ⟨fun p hp => by
  simp only [List.mem_singleton] at hp
  subst hp
  exact h⟩
end Go.Proofs.YtgmaolodfmolmaaDoor
