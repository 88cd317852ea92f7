/-
  Headers: their cells; whether one may be; its bytes.
-/
import Derived.Test.YtgmaolodfmolmaaDoorGF
import Derived.Test.YtgmaolodfmolmaaDoorGH
import Derived.Test.YtgmaolodfmolmaaDoorGC
set_option linter.unusedVariables false
set_option linter.unusedSimpArgs false
namespace Go.Proofs.YtgmaolodfmolmaaDoor
open Go Go.RowKit
set_option linter.unusedVariables false
set_option linter.unusedSimpArgs false

structure Hd where
  height : Int
  parent : List UInt8
  state : List UInt8
  rows : List UInt8
  many : Int
def Hd.cells (h : Hd) : List Value := .int .i64 h.height :: (bvs h.parent ++ (bvs h.state ++ (bvs h.rows ++ [.int .i64 h.many])))
structure Hd.ok (h : Hd) : Prop where
  parent : h.parent.length = 32
  state : h.state.length = 32
  rows : h.rows.length = 32
theorem Hd.len {h : Hd} (o : h.ok) : h.cells.length = 98 := by simp [Hd.cells, o.parent, o.state, o.rows]
instance oc_hd (h : Hd) : OC h.cells := (inferInstance : OC (.int .i64 h.height :: (bvs h.parent ++ (bvs h.state ++ (bvs h.rows ++ [.int .i64 h.many])))))
theorem Hd.f0 (h : Hd) : h.cells[0 + 0]? = some (.int .i64 h.height) := rfl
theorem Hd.f1 {h : Hd} (o : h.ok) : (h.cells.drop (0 + 1)).take 32 = bvs h.parent := by
  simp only [Hd.cells, Nat.zero_add, List.drop_succ_cons, List.drop_zero]
  rw [List.take_left' (by simp [o.parent])]
theorem Hd.f2 {h : Hd} (o : h.ok) : (h.cells.drop (0 + 33)).take 32 = bvs h.state := by
  have e : h.cells = (.int .i64 h.height :: bvs h.parent) ++ (bvs h.state ++ (bvs h.rows ++ [.int .i64 h.many])) := by simp [Hd.cells]
  rw [e, List.drop_left' (by simp [o.parent]), List.take_left' (by simp [o.state])]
theorem Hd.f3 {h : Hd} (o : h.ok) : (h.cells.drop (0 + 65)).take 32 = bvs h.rows := by
  have e : h.cells = (.int .i64 h.height :: (bvs h.parent ++ bvs h.state)) ++ (bvs h.rows ++ [.int .i64 h.many]) := by simp [Hd.cells]
  rw [e, List.drop_left' (by simp [o.parent, o.state]), List.take_left' (by simp [o.rows])]
theorem Hd.f4 {h : Hd} (o : h.ok) : h.cells[0 + 97]? = some (.int .i64 h.many) := by
  have e : h.cells = (.int .i64 h.height :: (bvs h.parent ++ (bvs h.state ++ bvs h.rows))) ++ [.int .i64 h.many] := by simp [Hd.cells]
  rw [e, List.getElem?_append_right (by simp [o.parent, o.state, o.rows])]
  simp [o.parent, o.state, o.rows]
abbrev hdShape : Shape := some .i64 :: (List.replicate 32 (some .u8) ++ (List.replicate 32 (some .u8) ++ (List.replicate 32 (some .u8) ++ [some .i64])))
theorem hd_of_fits {cs : List Value} (h : FitsW hdShape cs) : ∃ x : Hd, x.ok ∧ cs = x.cells := by
  obtain ⟨n, us, rfl, hn, h1⟩ := h.cons
  obtain ⟨us1, ws1, rfl, h2, h3⟩ := h1.split
  obtain ⟨p, rfl, hp⟩ := h2.bytes
  obtain ⟨us2, ws2, rfl, h4, h5⟩ := h3.split
  obtain ⟨s, rfl, hs⟩ := h4.bytes
  obtain ⟨us3, ws3, rfl, h6, h7⟩ := h5.split
  obtain ⟨r, rfl, hr⟩ := h6.bytes
  obtain ⟨m, us4, rfl, hm, h8⟩ := h7.cons
  obtain rfl := h8.nil'
  exact ⟨⟨n, p, s, r, m⟩, ⟨hp, hs, hr⟩, rfl⟩

/-- Whether one may be. -/
def Hd.may (h : Hd) : Bool := decide (0 ≤ h.height ∧ h.height ≤ 1073741824 ∧ 0 ≤ h.many ∧ h.many ≤ 256)
def hBytes (h : Hd) : List UInt8 := digs h.height.toNat 8 ++ (h.parent ++ (h.state ++ (h.rows ++ digs h.many.toNat 4)))
theorem hBytes_length {h : Hd} (o : h.ok) : (hBytes h).length = 108 := by simp [hBytes, o.parent, o.state, o.rows, digs_length]
def hHash (h : Hd) : List UInt8 := sha (tagB 6 [hBytes h])
theorem hHash_length (h : Hd) : (hHash h).length = 32 := sha_length _

set_option maxRecDepth 100000 in
theorem hcheck_vc (w0 : World) (L : List Asn) (h : Hd) (o : h.ok) :
    VC Tryd.prog w0 6 [.agg h.cells.toArray] L fun v L' => v = .int .i64 (if h.may then 0 else 8) ∧ L' = L := by
  have f0 := Hd.f0 h
  have f4 := Hd.f4 o
  unfold Hd.may
  generalize h.cells = cs at *
  generalize h.height = H at *
  generalize h.many = M at *
  refine vc_ent ?_
  refine vc_in rfl rfl ?_
  repeat' (first | (refine go1 ?_; intros) | (refine vl_caseG rfl rfl rfl rfl ?_ ?_ <;> (intro hb; (try simp only [decide_eq_true_eq, decide_eq_false_iff_not, Bool.not_eq_true', Bool.not_eq_false', ne_eq, Decidable.not_not, Option.isNone_iff_eq_none, not_true_eq_false, not_false_eq_true] at hb); try (exfalso; omega))) | (refine v_cond rfl ?_ ?_ <;> (intro hb; (try simp only [decide_eq_true_eq, decide_eq_false_iff_not, Bool.not_eq_true', Bool.not_eq_false', ne_eq, Decidable.not_not, Option.isNone_iff_eq_none, not_true_eq_false, not_false_eq_true] at hb); try (exfalso; omega))) | fail)
  all_goals refine ⟨_, (se_drop _ _).ent w0, ?_, rfl⟩
  all_goals first | (rw [decide_eq_true (by omega)]; rfl) | (rw [decide_eq_false (by omega)]; rfl)
/-- A number in so many bytes. -/
theorem hnumber_vc (w0 : World) (L : List Asn) (n s : Nat) (h0 : 0 < s) (h8 : s ≤ 8) (hn : n < 256 ^ s) (hn' : n < 9000000000000000000) :
    VC Tryd.prog w0 17 [.int .i64 n, .int .i64 s] L fun v L' => ∃ a' cap', v = .slice a' s cap' ∧ L' = ownB a' cap' (digs n s) :: L := by
  refine vc_in rfl rfl ?_
  repeat' (first | (refine go1 ?_; intros) | (refine vl_caseG rfl rfl rfl rfl ?_ ?_ <;> (intro hb; (try simp only [decide_eq_true_eq, decide_eq_false_iff_not, Bool.not_eq_true', Bool.not_eq_false', ne_eq, Decidable.not_not, Option.isNone_iff_eq_none, not_true_eq_false, not_false_eq_true] at hb); try (exfalso; omega))) | (refine v_cond rfl ?_ ?_ <;> (intro hb; (try simp only [decide_eq_true_eq, decide_eq_false_iff_not, Bool.not_eq_true', Bool.not_eq_false', ne_eq, Decidable.not_not, Option.isNone_iff_eq_none, not_true_eq_false, not_false_eq_true] at hb); try (exfalso; omega))) | fail)
  refine vl_o rfl (vo_call rfl rfl ?_)
  refine vc_mono (put_vc w0 _ n s h0 h8 hn) ?_
  rintro v L' ⟨a4, c4, rfl, rfl⟩
  repeat' (first | (refine go1 ?_; intros) | (refine vl_caseG rfl rfl rfl rfl ?_ ?_ <;> (intro hb; (try simp only [decide_eq_true_eq, decide_eq_false_iff_not, Bool.not_eq_true', Bool.not_eq_false', ne_eq, Decidable.not_not, Option.isNone_iff_eq_none, not_true_eq_false, not_false_eq_true] at hb); try (exfalso; omega))) | (refine v_cond rfl ?_ ?_ <;> (intro hb; (try simp only [decide_eq_true_eq, decide_eq_false_iff_not, Bool.not_eq_true', Bool.not_eq_false', ne_eq, Decidable.not_not, Option.isNone_iff_eq_none, not_true_eq_false, not_false_eq_true] at hb); try (exfalso; omega))) | fail)
  exact ⟨_, _, rfl, rfl⟩
end Go.Proofs.YtgmaolodfmolmaaDoor
