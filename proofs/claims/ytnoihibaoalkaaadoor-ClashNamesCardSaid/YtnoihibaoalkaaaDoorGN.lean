/-
  What may be a proof. The program's check of a proof. Checks of a proof; what it tells. What a proof tells; twins of proofs. The program's proof.Same. Twins of proofs.
-/
import Derived.Test.YtnoihibaoalkaaaDoorGG
import Derived.Test.YtnoihibaoalkaaaDoorGK
set_option linter.unusedVariables false
set_option linter.unusedSimpArgs false
namespace Go.Proofs.YtnoihibaoalkaaaDoor
open Go Go.RowKit
set_option linter.unusedVariables false
set_option linter.unusedSimpArgs false

open Classical in
/-- How many bits two keys share. -/
noncomputable def sh (a b : List UInt8) : Nat := if h : ∃ n, IsSh a b n then Classical.choose h else 0
theorem IsSh.sh {a b : List UInt8} {n : Nat} (h : IsSh a b n) : sh a b = n := by
  have hx : ∃ n, IsSh a b n := ⟨n, h⟩
  unfold Proofs.YtnoihibaoalkaaaDoor.sh
  rw [dif_pos hx]
  exact (Classical.choose_spec hx).uniq h

/-- A proof's content. -/
structure Prf where
  key : List UInt8
  kind : Nat
  other : List UInt8
  va : Option Addr
  vc : Nat
  vl : List UInt8
  pa : Option Addr
  pc : Nat
  pl : List (List UInt8)
def Prf.cells (p : Prf) : List Value := bvs p.key ++ (.int .u8 p.kind :: (bvs p.other ++ [.slice p.va p.vl.length p.vc, .slice p.pa p.pl.length p.pc]))
structure Prf.ok (p : Prf) : Prop where
  key : p.key.length = 32
  kind : p.kind < 256
  other : p.other.length = 32
  dg : Dg p.pl
  vl : p.vl.length ≤ 1000000000000
  pl : p.pl.length ≤ 1000000000000
theorem Prf.len {p : Prf} (h : p.ok) : p.cells.length = 67 := by simp [Prf.cells, h.key, h.other]
theorem Prf.f0 {p : Prf} (h : p.ok) : (p.cells.drop (0 + 0)).take 32 = bvs p.key := by
  have := h.key
  simp only [Prf.cells, Nat.add_zero, List.drop_zero]
  rw [List.take_left' (by simpa)]
theorem Prf.f1 {p : Prf} (h : p.ok) : p.cells[0 + 32]? = some (.int .u8 p.kind) := by
  have := h.key
  simp [Prf.cells, List.getElem?_append, h.key]
theorem Prf.f2 {p : Prf} (h : p.ok) : (p.cells.drop (0 + 33)).take 32 = bvs p.other := by
  have := h.key
  have := h.other
  simp [Prf.cells, List.drop_append, List.take_append, h.key, h.other, List.drop_of_length_le]
theorem Prf.f3 {p : Prf} (h : p.ok) : p.cells[0 + 65]? = some (.slice p.va p.vl.length p.vc) := by
  simp [Prf.cells, List.getElem?_append, h.key, h.other]
theorem Prf.f4 {p : Prf} (h : p.ok) : p.cells[0 + 66]? = some (.slice p.pa p.pl.length p.pc) := by
  simp [Prf.cells, List.getElem?_append, h.key, h.other]
def zero32 : List UInt8 := List.replicate 32 0
/-- It may be one. -/
noncomputable def Prf.may1 (p : Prf) : Bool := (if p.kind = 0 then decide (p.other = zero32) && decide (p.vl.length = 0) else if p.kind = 1 then decide (p.other = zero32) && okVal p.vl.length else if p.kind = 2 then okVal p.vl.length && (decide (p.other ≠ p.key) && decide (p.pl.length ≤ sh p.other p.key)) else false)
noncomputable def Prf.may (p : Prf) : Bool := decide (p.pl.length ≤ 256) && p.may1

end Go.Proofs.YtnoihibaoalkaaaDoor
namespace Go.Proofs.YtnoihibaoalkaaaDoor
open Go Go.RowKit
set_option linter.unusedVariables false
set_option linter.unusedSimpArgs false

set_option maxRecDepth 100000 in
set_option maxHeartbeats 1000000 in
theorem chk1_vc (w0 : World) (L : List Asn) (g : Nat) (p : Prf) (h : p.ok) :
    VC Tryd.prog w0 95 [.pointer (some ⟨g, 0, none⟩)] (blk g 30 p.cells :: L) fun v L' => v = .bool p.may1 ∧ L' = blk g 30 p.cells :: L := by
  have f0 := Prf.f0 h
  have f1 := Prf.f1 h
  have f2 := Prf.f2 h
  have f3 := Prf.f3 h
  have f4 := Prf.f4 h
  have hlk := h.key
  have hlo := h.other
  have hvl := h.vl
  have hpl := h.pl
  have hkd := h.kind
  unfold Prf.may1
  generalize p.cells = cs at *
  refine vc_in rfl rfl ?_
  repeat' (first | (refine go1 ?_; intros) | (refine vl_caseG rfl rfl rfl rfl ?_ ?_ <;> (intro hb; (try simp only [decide_eq_true_eq, decide_eq_false_iff_not, Bool.not_eq_true', Bool.not_eq_false', ne_eq, Decidable.not_not, Option.isNone_iff_eq_none, not_true_eq_false, not_false_eq_true] at hb); try (exfalso; omega))) | (refine v_cond rfl ?_ ?_ <;> (intro hb; (try simp only [decide_eq_true_eq, decide_eq_false_iff_not, Bool.not_eq_true', Bool.not_eq_false', ne_eq, Decidable.not_not, Option.isNone_iff_eq_none, not_true_eq_false, not_false_eq_true] at hb); try (exfalso; omega))) | fail)
  · refine ⟨?_, rfl⟩
    simp [zero32, hb, show p.kind = 0 by omega]
  · refine ⟨?_, rfl⟩
    have hz : ¬ p.other = zero32 := hb
    simp [hz, show p.kind = 0 by omega]
  · refine vl_o rfl (vo_call rfl rfl ?_)
    refine vc_mono (value_vc w0 _ p.va p.vl.length p.vc (by omega)) ?_
    rintro v L' ⟨rfl, rfl⟩
    repeat' (first | (refine go1 ?_; intros) | (refine vl_caseG rfl rfl rfl rfl ?_ ?_ <;> (intro hb; (try simp only [decide_eq_true_eq, decide_eq_false_iff_not, Bool.not_eq_true', Bool.not_eq_false', ne_eq, Decidable.not_not, Option.isNone_iff_eq_none, not_true_eq_false, not_false_eq_true] at hb); try (exfalso; omega))) | (refine v_cond rfl ?_ ?_ <;> (intro hb; (try simp only [decide_eq_true_eq, decide_eq_false_iff_not, Bool.not_eq_true', Bool.not_eq_false', ne_eq, Decidable.not_not, Option.isNone_iff_eq_none, not_true_eq_false, not_false_eq_true] at hb); try (exfalso; omega))) | fail)
    refine ⟨?_, rfl⟩
    simp [zero32, hb, show p.kind = 1 by omega]
  · refine ⟨?_, rfl⟩
    have hz : ¬ p.other = zero32 := hb
    simp [hz, show p.kind = 1 by omega]
  · have hk2 : p.kind = 2 := by omega
    simp only [hk2, show ¬ (2 = 0) by decide, show ¬ (2 = 1) by decide, if_false, if_true]
    (refine v_draw0 [] (by kernel_rfl) ?_ <;> (refine va_takeA 0 rfl rfl rfl rfl ?_) <;> (refine va_takeA 1 rfl rfl rfl rfl ?_))
    refine va_one 2 (by kernel_rfl) rfl rfl (vo_call rfl rfl ?_)
    refine vc_mono (value_vc w0 _ p.va p.vl.length p.vc (by omega)) ?_
    rintro v L' ⟨rfl, rfl⟩
    refine ⟨.inr (SE.ent (by repeat' (first | exact SE.refl _ | refine SE.cons _ ?_ | refine SE.trans (se_drop _ _) ?_)) _), ?_⟩
    cases hv : okVal p.vl.length
    · ((refine va_takeA 3 rfl rfl rfl rfl ?_) <;> (first | refine va_takeGA 4 rfl rfl rfl rfl rfl rfl rfl rfl ?_ | refine va_passGA 4 rfl rfl rfl rfl rfl rfl rfl rfl ?_ | (refine va_caseG 4 rfl rfl rfl rfl rfl ?_ ?_ <;> (intro hb; (try simp only [decide_eq_true_eq, decide_eq_false_iff_not, Bool.not_eq_true', Bool.not_eq_false', ne_eq, Decidable.not_not, Option.isNone_iff_eq_none, not_true_eq_false, not_false_eq_true] at hb); try (exfalso; omega)) <;> first | refine va_takeGA 4 rfl rfl rfl rfl rfl rfl rfl rfl ?_ | refine va_passGA 4 rfl rfl rfl rfl rfl rfl rfl rfl ?_)) <;> (first | refine va_takeGA 5 rfl rfl rfl rfl rfl rfl rfl rfl ?_ | refine va_passGA 5 rfl rfl rfl rfl rfl rfl rfl rfl ?_ | (refine va_caseG 5 rfl rfl rfl rfl rfl ?_ ?_ <;> (intro hb; (try simp only [decide_eq_true_eq, decide_eq_false_iff_not, Bool.not_eq_true', Bool.not_eq_false', ne_eq, Decidable.not_not, Option.isNone_iff_eq_none, not_true_eq_false, not_false_eq_true] at hb); try (exfalso; omega)) <;> first | refine va_takeGA 5 rfl rfl rfl rfl rfl rfl rfl rfl ?_ | refine va_passGA 5 rfl rfl rfl rfl rfl rfl rfl rfl ?_)) <;> (first | refine va_takeGA 6 rfl rfl rfl rfl rfl rfl rfl rfl ?_ | refine va_passGA 6 rfl rfl rfl rfl rfl rfl rfl rfl ?_ | (refine va_caseG 6 rfl rfl rfl rfl rfl ?_ ?_ <;> (intro hb; (try simp only [decide_eq_true_eq, decide_eq_false_iff_not, Bool.not_eq_true', Bool.not_eq_false', ne_eq, Decidable.not_not, Option.isNone_iff_eq_none, not_true_eq_false, not_false_eq_true] at hb); try (exfalso; omega)) <;> first | refine va_takeGA 6 rfl rfl rfl rfl rfl rfl rfl rfl ?_ | refine va_passGA 6 rfl rfl rfl rfl rfl rfl rfl rfl ?_)) <;> (first | refine va_takeGA 7 rfl rfl rfl rfl rfl rfl rfl rfl ?_ | refine va_passGA 7 rfl rfl rfl rfl rfl rfl rfl rfl ?_ | (refine va_caseG 7 rfl rfl rfl rfl rfl ?_ ?_ <;> (intro hb; (try simp only [decide_eq_true_eq, decide_eq_false_iff_not, Bool.not_eq_true', Bool.not_eq_false', ne_eq, Decidable.not_not, Option.isNone_iff_eq_none, not_true_eq_false, not_false_eq_true] at hb); try (exfalso; omega)) <;> first | refine va_takeGA 7 rfl rfl rfl rfl rfl rfl rfl rfl ?_ | refine va_passGA 7 rfl rfl rfl rfl rfl rfl rfl rfl ?_)) <;> (first | refine va_takeGA 8 rfl rfl rfl rfl rfl rfl rfl rfl ?_ | refine va_passGA 8 rfl rfl rfl rfl rfl rfl rfl rfl ?_ | (refine va_caseG 8 rfl rfl rfl rfl rfl ?_ ?_ <;> (intro hb; (try simp only [decide_eq_true_eq, decide_eq_false_iff_not, Bool.not_eq_true', Bool.not_eq_false', ne_eq, Decidable.not_not, Option.isNone_iff_eq_none, not_true_eq_false, not_false_eq_true] at hb); try (exfalso; omega)) <;> first | refine va_takeGA 8 rfl rfl rfl rfl rfl rfl rfl rfl ?_ | refine va_passGA 8 rfl rfl rfl rfl rfl rfl rfl rfl ?_)) <;> (refine va_takeA 9 rfl rfl rfl rfl ?_) <;> (refine va_takeA 10 rfl rfl rfl rfl ?_) <;> (first | refine va_takeGA 11 rfl rfl rfl rfl rfl rfl rfl rfl ?_ | refine va_passGA 11 rfl rfl rfl rfl rfl rfl rfl rfl ?_ | (refine va_caseG 11 rfl rfl rfl rfl rfl ?_ ?_ <;> (intro hb; (try simp only [decide_eq_true_eq, decide_eq_false_iff_not, Bool.not_eq_true', Bool.not_eq_false', ne_eq, Decidable.not_not, Option.isNone_iff_eq_none, not_true_eq_false, not_false_eq_true] at hb); try (exfalso; omega)) <;> first | refine va_takeGA 11 rfl rfl rfl rfl rfl rfl rfl rfl ?_ | refine va_passGA 11 rfl rfl rfl rfl rfl rfl rfl rfl ?_)) <;> (first | refine va_takeGA 12 rfl rfl rfl rfl rfl rfl rfl rfl ?_ | refine va_passGA 12 rfl rfl rfl rfl rfl rfl rfl rfl ?_ | (refine va_caseG 12 rfl rfl rfl rfl rfl ?_ ?_ <;> (intro hb; (try simp only [decide_eq_true_eq, decide_eq_false_iff_not, Bool.not_eq_true', Bool.not_eq_false', ne_eq, Decidable.not_not, Option.isNone_iff_eq_none, not_true_eq_false, not_false_eq_true] at hb); try (exfalso; omega)) <;> first | refine va_takeGA 12 rfl rfl rfl rfl rfl rfl rfl rfl ?_ | refine va_passGA 12 rfl rfl rfl rfl rfl rfl rfl rfl ?_)) <;> (first | refine va_takeGA 13 rfl rfl rfl rfl rfl rfl rfl rfl ?_ | refine va_passGA 13 rfl rfl rfl rfl rfl rfl rfl rfl ?_ | (refine va_caseG 13 rfl rfl rfl rfl rfl ?_ ?_ <;> (intro hb; (try simp only [decide_eq_true_eq, decide_eq_false_iff_not, Bool.not_eq_true', Bool.not_eq_false', ne_eq, Decidable.not_not, Option.isNone_iff_eq_none, not_true_eq_false, not_false_eq_true] at hb); try (exfalso; omega)) <;> first | refine va_takeGA 13 rfl rfl rfl rfl rfl rfl rfl rfl ?_ | refine va_passGA 13 rfl rfl rfl rfl rfl rfl rfl rfl ?_)) <;> (first | refine va_takeGA 14 rfl rfl rfl rfl rfl rfl rfl rfl ?_ | refine va_passGA 14 rfl rfl rfl rfl rfl rfl rfl rfl ?_ | (refine va_caseG 14 rfl rfl rfl rfl rfl ?_ ?_ <;> (intro hb; (try simp only [decide_eq_true_eq, decide_eq_false_iff_not, Bool.not_eq_true', Bool.not_eq_false', ne_eq, Decidable.not_not, Option.isNone_iff_eq_none, not_true_eq_false, not_false_eq_true] at hb); try (exfalso; omega)) <;> first | refine va_takeGA 14 rfl rfl rfl rfl rfl rfl rfl rfl ?_ | refine va_passGA 14 rfl rfl rfl rfl rfl rfl rfl rfl ?_)) <;> (first | refine va_takeGA 16 rfl rfl rfl rfl rfl rfl rfl rfl ?_ | refine va_passGA 16 rfl rfl rfl rfl rfl rfl rfl rfl ?_ | (refine va_caseG 16 rfl rfl rfl rfl rfl ?_ ?_ <;> (intro hb; (try simp only [decide_eq_true_eq, decide_eq_false_iff_not, Bool.not_eq_true', Bool.not_eq_false', ne_eq, Decidable.not_not, Option.isNone_iff_eq_none, not_true_eq_false, not_false_eq_true] at hb); try (exfalso; omega)) <;> first | refine va_takeGA 16 rfl rfl rfl rfl rfl rfl rfl rfl ?_ | refine va_passGA 16 rfl rfl rfl rfl rfl rfl rfl rfl ?_)) <;> (first | refine va_takeGA 17 rfl rfl rfl rfl rfl rfl rfl rfl ?_ | refine va_passGA 17 rfl rfl rfl rfl rfl rfl rfl rfl ?_ | (refine va_caseG 17 rfl rfl rfl rfl rfl ?_ ?_ <;> (intro hb; (try simp only [decide_eq_true_eq, decide_eq_false_iff_not, Bool.not_eq_true', Bool.not_eq_false', ne_eq, Decidable.not_not, Option.isNone_iff_eq_none, not_true_eq_false, not_false_eq_true] at hb); try (exfalso; omega)) <;> first | refine va_takeGA 17 rfl rfl rfl rfl rfl rfl rfl rfl ?_ | refine va_passGA 17 rfl rfl rfl rfl rfl rfl rfl rfl ?_)) <;> (first | refine va_takeGA 18 rfl rfl rfl rfl rfl rfl rfl rfl ?_ | refine va_passGA 18 rfl rfl rfl rfl rfl rfl rfl rfl ?_ | (refine va_caseG 18 rfl rfl rfl rfl rfl ?_ ?_ <;> (intro hb; (try simp only [decide_eq_true_eq, decide_eq_false_iff_not, Bool.not_eq_true', Bool.not_eq_false', ne_eq, Decidable.not_not, Option.isNone_iff_eq_none, not_true_eq_false, not_false_eq_true] at hb); try (exfalso; omega)) <;> first | refine va_takeGA 18 rfl rfl rfl rfl rfl rfl rfl rfl ?_ | refine va_passGA 18 rfl rfl rfl rfl rfl rfl rfl rfl ?_)))
      refine va_passGA 15 rfl rfl rfl rfl rfl rfl rfl rfl ?_
      ((first | refine va_takeGA 19 rfl rfl rfl rfl rfl rfl rfl rfl ?_ | refine va_passGA 19 rfl rfl rfl rfl rfl rfl rfl rfl ?_ | (refine va_caseG 19 rfl rfl rfl rfl rfl ?_ ?_ <;> (intro hb; (try simp only [decide_eq_true_eq, decide_eq_false_iff_not, Bool.not_eq_true', Bool.not_eq_false', ne_eq, Decidable.not_not, Option.isNone_iff_eq_none, not_true_eq_false, not_false_eq_true] at hb); try (exfalso; omega)) <;> first | refine va_takeGA 19 rfl rfl rfl rfl rfl rfl rfl rfl ?_ | refine va_passGA 19 rfl rfl rfl rfl rfl rfl rfl rfl ?_)) <;> (refine va_takeA 20 rfl rfl rfl rfl ?_) <;> (refine va_takeA 21 rfl rfl rfl rfl ?_) <;> (refine va_done (by kernel_rfl) ?_))
      repeat' (first | (refine go1 ?_; intros) | (refine vl_caseG rfl rfl rfl rfl ?_ ?_ <;> (intro hb; (try simp only [decide_eq_true_eq, decide_eq_false_iff_not, Bool.not_eq_true', Bool.not_eq_false', ne_eq, Decidable.not_not, Option.isNone_iff_eq_none, not_true_eq_false, not_false_eq_true] at hb); try (exfalso; omega))) | (refine v_cond rfl ?_ ?_ <;> (intro hb; (try simp only [decide_eq_true_eq, decide_eq_false_iff_not, Bool.not_eq_true', Bool.not_eq_false', ne_eq, Decidable.not_not, Option.isNone_iff_eq_none, not_true_eq_false, not_false_eq_true] at hb); try (exfalso; omega))) | fail)
      exact ⟨rfl, rfl⟩
    · ((refine va_takeA 3 rfl rfl rfl rfl ?_) <;> (first | refine va_takeGA 4 rfl rfl rfl rfl rfl rfl rfl rfl ?_ | refine va_passGA 4 rfl rfl rfl rfl rfl rfl rfl rfl ?_ | (refine va_caseG 4 rfl rfl rfl rfl rfl ?_ ?_ <;> (intro hb; (try simp only [decide_eq_true_eq, decide_eq_false_iff_not, Bool.not_eq_true', Bool.not_eq_false', ne_eq, Decidable.not_not, Option.isNone_iff_eq_none, not_true_eq_false, not_false_eq_true] at hb); try (exfalso; omega)) <;> first | refine va_takeGA 4 rfl rfl rfl rfl rfl rfl rfl rfl ?_ | refine va_passGA 4 rfl rfl rfl rfl rfl rfl rfl rfl ?_)) <;> (first | refine va_takeGA 5 rfl rfl rfl rfl rfl rfl rfl rfl ?_ | refine va_passGA 5 rfl rfl rfl rfl rfl rfl rfl rfl ?_ | (refine va_caseG 5 rfl rfl rfl rfl rfl ?_ ?_ <;> (intro hb; (try simp only [decide_eq_true_eq, decide_eq_false_iff_not, Bool.not_eq_true', Bool.not_eq_false', ne_eq, Decidable.not_not, Option.isNone_iff_eq_none, not_true_eq_false, not_false_eq_true] at hb); try (exfalso; omega)) <;> first | refine va_takeGA 5 rfl rfl rfl rfl rfl rfl rfl rfl ?_ | refine va_passGA 5 rfl rfl rfl rfl rfl rfl rfl rfl ?_)) <;> (first | refine va_takeGA 6 rfl rfl rfl rfl rfl rfl rfl rfl ?_ | refine va_passGA 6 rfl rfl rfl rfl rfl rfl rfl rfl ?_ | (refine va_caseG 6 rfl rfl rfl rfl rfl ?_ ?_ <;> (intro hb; (try simp only [decide_eq_true_eq, decide_eq_false_iff_not, Bool.not_eq_true', Bool.not_eq_false', ne_eq, Decidable.not_not, Option.isNone_iff_eq_none, not_true_eq_false, not_false_eq_true] at hb); try (exfalso; omega)) <;> first | refine va_takeGA 6 rfl rfl rfl rfl rfl rfl rfl rfl ?_ | refine va_passGA 6 rfl rfl rfl rfl rfl rfl rfl rfl ?_)) <;> (first | refine va_takeGA 7 rfl rfl rfl rfl rfl rfl rfl rfl ?_ | refine va_passGA 7 rfl rfl rfl rfl rfl rfl rfl rfl ?_ | (refine va_caseG 7 rfl rfl rfl rfl rfl ?_ ?_ <;> (intro hb; (try simp only [decide_eq_true_eq, decide_eq_false_iff_not, Bool.not_eq_true', Bool.not_eq_false', ne_eq, Decidable.not_not, Option.isNone_iff_eq_none, not_true_eq_false, not_false_eq_true] at hb); try (exfalso; omega)) <;> first | refine va_takeGA 7 rfl rfl rfl rfl rfl rfl rfl rfl ?_ | refine va_passGA 7 rfl rfl rfl rfl rfl rfl rfl rfl ?_)) <;> (first | refine va_takeGA 8 rfl rfl rfl rfl rfl rfl rfl rfl ?_ | refine va_passGA 8 rfl rfl rfl rfl rfl rfl rfl rfl ?_ | (refine va_caseG 8 rfl rfl rfl rfl rfl ?_ ?_ <;> (intro hb; (try simp only [decide_eq_true_eq, decide_eq_false_iff_not, Bool.not_eq_true', Bool.not_eq_false', ne_eq, Decidable.not_not, Option.isNone_iff_eq_none, not_true_eq_false, not_false_eq_true] at hb); try (exfalso; omega)) <;> first | refine va_takeGA 8 rfl rfl rfl rfl rfl rfl rfl rfl ?_ | refine va_passGA 8 rfl rfl rfl rfl rfl rfl rfl rfl ?_)) <;> (refine va_takeA 9 rfl rfl rfl rfl ?_) <;> (refine va_takeA 10 rfl rfl rfl rfl ?_) <;> (first | refine va_takeGA 11 rfl rfl rfl rfl rfl rfl rfl rfl ?_ | refine va_passGA 11 rfl rfl rfl rfl rfl rfl rfl rfl ?_ | (refine va_caseG 11 rfl rfl rfl rfl rfl ?_ ?_ <;> (intro hb; (try simp only [decide_eq_true_eq, decide_eq_false_iff_not, Bool.not_eq_true', Bool.not_eq_false', ne_eq, Decidable.not_not, Option.isNone_iff_eq_none, not_true_eq_false, not_false_eq_true] at hb); try (exfalso; omega)) <;> first | refine va_takeGA 11 rfl rfl rfl rfl rfl rfl rfl rfl ?_ | refine va_passGA 11 rfl rfl rfl rfl rfl rfl rfl rfl ?_)) <;> (first | refine va_takeGA 12 rfl rfl rfl rfl rfl rfl rfl rfl ?_ | refine va_passGA 12 rfl rfl rfl rfl rfl rfl rfl rfl ?_ | (refine va_caseG 12 rfl rfl rfl rfl rfl ?_ ?_ <;> (intro hb; (try simp only [decide_eq_true_eq, decide_eq_false_iff_not, Bool.not_eq_true', Bool.not_eq_false', ne_eq, Decidable.not_not, Option.isNone_iff_eq_none, not_true_eq_false, not_false_eq_true] at hb); try (exfalso; omega)) <;> first | refine va_takeGA 12 rfl rfl rfl rfl rfl rfl rfl rfl ?_ | refine va_passGA 12 rfl rfl rfl rfl rfl rfl rfl rfl ?_)) <;> (first | refine va_takeGA 13 rfl rfl rfl rfl rfl rfl rfl rfl ?_ | refine va_passGA 13 rfl rfl rfl rfl rfl rfl rfl rfl ?_ | (refine va_caseG 13 rfl rfl rfl rfl rfl ?_ ?_ <;> (intro hb; (try simp only [decide_eq_true_eq, decide_eq_false_iff_not, Bool.not_eq_true', Bool.not_eq_false', ne_eq, Decidable.not_not, Option.isNone_iff_eq_none, not_true_eq_false, not_false_eq_true] at hb); try (exfalso; omega)) <;> first | refine va_takeGA 13 rfl rfl rfl rfl rfl rfl rfl rfl ?_ | refine va_passGA 13 rfl rfl rfl rfl rfl rfl rfl rfl ?_)) <;> (first | refine va_takeGA 14 rfl rfl rfl rfl rfl rfl rfl rfl ?_ | refine va_passGA 14 rfl rfl rfl rfl rfl rfl rfl rfl ?_ | (refine va_caseG 14 rfl rfl rfl rfl rfl ?_ ?_ <;> (intro hb; (try simp only [decide_eq_true_eq, decide_eq_false_iff_not, Bool.not_eq_true', Bool.not_eq_false', ne_eq, Decidable.not_not, Option.isNone_iff_eq_none, not_true_eq_false, not_false_eq_true] at hb); try (exfalso; omega)) <;> first | refine va_takeGA 14 rfl rfl rfl rfl rfl rfl rfl rfl ?_ | refine va_passGA 14 rfl rfl rfl rfl rfl rfl rfl rfl ?_)) <;> (first | refine va_takeGA 16 rfl rfl rfl rfl rfl rfl rfl rfl ?_ | refine va_passGA 16 rfl rfl rfl rfl rfl rfl rfl rfl ?_ | (refine va_caseG 16 rfl rfl rfl rfl rfl ?_ ?_ <;> (intro hb; (try simp only [decide_eq_true_eq, decide_eq_false_iff_not, Bool.not_eq_true', Bool.not_eq_false', ne_eq, Decidable.not_not, Option.isNone_iff_eq_none, not_true_eq_false, not_false_eq_true] at hb); try (exfalso; omega)) <;> first | refine va_takeGA 16 rfl rfl rfl rfl rfl rfl rfl rfl ?_ | refine va_passGA 16 rfl rfl rfl rfl rfl rfl rfl rfl ?_)) <;> (first | refine va_takeGA 17 rfl rfl rfl rfl rfl rfl rfl rfl ?_ | refine va_passGA 17 rfl rfl rfl rfl rfl rfl rfl rfl ?_ | (refine va_caseG 17 rfl rfl rfl rfl rfl ?_ ?_ <;> (intro hb; (try simp only [decide_eq_true_eq, decide_eq_false_iff_not, Bool.not_eq_true', Bool.not_eq_false', ne_eq, Decidable.not_not, Option.isNone_iff_eq_none, not_true_eq_false, not_false_eq_true] at hb); try (exfalso; omega)) <;> first | refine va_takeGA 17 rfl rfl rfl rfl rfl rfl rfl rfl ?_ | refine va_passGA 17 rfl rfl rfl rfl rfl rfl rfl rfl ?_)) <;> (first | refine va_takeGA 18 rfl rfl rfl rfl rfl rfl rfl rfl ?_ | refine va_passGA 18 rfl rfl rfl rfl rfl rfl rfl rfl ?_ | (refine va_caseG 18 rfl rfl rfl rfl rfl ?_ ?_ <;> (intro hb; (try simp only [decide_eq_true_eq, decide_eq_false_iff_not, Bool.not_eq_true', Bool.not_eq_false', ne_eq, Decidable.not_not, Option.isNone_iff_eq_none, not_true_eq_false, not_false_eq_true] at hb); try (exfalso; omega)) <;> first | refine va_takeGA 18 rfl rfl rfl rfl rfl rfl rfl rfl ?_ | refine va_passGA 18 rfl rfl rfl rfl rfl rfl rfl rfl ?_)))
      · refine va_oneG 15 (by kernel_rfl) rfl rfl rfl rfl rfl rfl (vo_call rfl rfl ?_)
        refine vc_mono (shp_vc w0 _ p.other p.key hlo hlk) ?_
        rintro v L' ⟨s, hs, rfl, rfl⟩
        rw [hs.sh]
        have hs256 := hs.1
        refine ⟨.inr (SE.ent (by repeat' (first | exact SE.refl _ | refine SE.cons _ ?_ | refine SE.trans (se_drop _ _) ?_)) _), ?_⟩
        ((first | refine va_takeGA 19 rfl rfl rfl rfl rfl rfl rfl rfl ?_ | refine va_passGA 19 rfl rfl rfl rfl rfl rfl rfl rfl ?_ | (refine va_caseG 19 rfl rfl rfl rfl rfl ?_ ?_ <;> (intro hb; (try simp only [decide_eq_true_eq, decide_eq_false_iff_not, Bool.not_eq_true', Bool.not_eq_false', ne_eq, Decidable.not_not, Option.isNone_iff_eq_none, not_true_eq_false, not_false_eq_true] at hb); try (exfalso; omega)) <;> first | refine va_takeGA 19 rfl rfl rfl rfl rfl rfl rfl rfl ?_ | refine va_passGA 19 rfl rfl rfl rfl rfl rfl rfl rfl ?_)) <;> (refine va_takeA 20 rfl rfl rfl rfl ?_) <;> (refine va_takeA 21 rfl rfl rfl rfl ?_) <;> (refine va_done (by kernel_rfl) ?_))
        repeat' (first | (refine go1 ?_; intros) | (refine vl_caseG rfl rfl rfl rfl ?_ ?_ <;> (intro hb; (try simp only [decide_eq_true_eq, decide_eq_false_iff_not, Bool.not_eq_true', Bool.not_eq_false', ne_eq, Decidable.not_not, Option.isNone_iff_eq_none, not_true_eq_false, not_false_eq_true] at hb); try (exfalso; omega))) | (refine v_cond rfl ?_ ?_ <;> (intro hb; (try simp only [decide_eq_true_eq, decide_eq_false_iff_not, Bool.not_eq_true', Bool.not_eq_false', ne_eq, Decidable.not_not, Option.isNone_iff_eq_none, not_true_eq_false, not_false_eq_true] at hb); try (exfalso; omega))) | fail)
        refine ⟨?_, rfl⟩
        simp [hb]
      · refine va_passGA 15 rfl rfl rfl rfl rfl rfl rfl rfl ?_
        ((first | refine va_takeGA 19 rfl rfl rfl rfl rfl rfl rfl rfl ?_ | refine va_passGA 19 rfl rfl rfl rfl rfl rfl rfl rfl ?_ | (refine va_caseG 19 rfl rfl rfl rfl rfl ?_ ?_ <;> (intro hb; (try simp only [decide_eq_true_eq, decide_eq_false_iff_not, Bool.not_eq_true', Bool.not_eq_false', ne_eq, Decidable.not_not, Option.isNone_iff_eq_none, not_true_eq_false, not_false_eq_true] at hb); try (exfalso; omega)) <;> first | refine va_takeGA 19 rfl rfl rfl rfl rfl rfl rfl rfl ?_ | refine va_passGA 19 rfl rfl rfl rfl rfl rfl rfl rfl ?_)) <;> (refine va_takeA 20 rfl rfl rfl rfl ?_) <;> (refine va_takeA 21 rfl rfl rfl rfl ?_) <;> (refine va_done (by kernel_rfl) ?_))
        repeat' (first | (refine go1 ?_; intros) | (refine vl_caseG rfl rfl rfl rfl ?_ ?_ <;> (intro hb; (try simp only [decide_eq_true_eq, decide_eq_false_iff_not, Bool.not_eq_true', Bool.not_eq_false', ne_eq, Decidable.not_not, Option.isNone_iff_eq_none, not_true_eq_false, not_false_eq_true] at hb); try (exfalso; omega))) | (refine v_cond rfl ?_ ?_ <;> (intro hb; (try simp only [decide_eq_true_eq, decide_eq_false_iff_not, Bool.not_eq_true', Bool.not_eq_false', ne_eq, Decidable.not_not, Option.isNone_iff_eq_none, not_true_eq_false, not_false_eq_true] at hb); try (exfalso; omega))) | fail)
        refine ⟨?_, rfl⟩
        simp [hb]
  · refine ⟨?_, rfl⟩
    simp [show ¬ p.kind = 0 by omega, show ¬ p.kind = 1 by omega, show ¬ p.kind = 2 by omega]

end Go.Proofs.YtnoihibaoalkaaaDoor
namespace Go.Proofs.YtnoihibaoalkaaaDoor
open Go Go.RowKit
set_option linter.unusedVariables false
set_option linter.unusedSimpArgs false

set_option maxRecDepth 100000 in
theorem check_vc (w0 : World) (L : List Asn) (p : Prf) (h : p.ok) :
    VC Tryd.prog w0 50 [.agg p.cells.toArray] L fun v L' => v = .int .i64 (if p.may then 0 else 8) ∧ L' = L := by
  have f4 := Prf.f4 h
  have hpl := h.pl
  refine vc_ent ?_
  refine vc_in rfl rfl ?_
  repeat' (first | (refine goN ?_; intros) | (refine vl_caseG rfl rfl rfl rfl ?_ ?_ <;> (intro hb; (try simp only [decide_eq_true_eq, decide_eq_false_iff_not, Bool.not_eq_true', Bool.not_eq_false', ne_eq, Decidable.not_not, Option.isNone_iff_eq_none, not_true_eq_false, not_false_eq_true] at hb); try (exfalso; omega))) | (refine v_cond rfl ?_ ?_ <;> (intro hb; (try simp only [decide_eq_true_eq, decide_eq_false_iff_not, Bool.not_eq_true', Bool.not_eq_false', ne_eq, Decidable.not_not, Option.isNone_iff_eq_none, not_true_eq_false, not_false_eq_true] at hb); try (exfalso; omega))) | fail)
  · refine ⟨_, (se_drop _ _).ent w0, ?_, rfl⟩
    simp [Prf.may, show ¬ p.pl.length ≤ 256 by omega]
  refine vl_o rfl (vo_callV rfl rfl rfl ?_)
  refine vc_mono (chk1_vc w0 _ _ p h) ?_
  rintro v L' ⟨rfl, rfl⟩
  cases hm : p.may1
  · repeat' (first | (refine go1 ?_; intros) | (refine vl_caseG rfl rfl rfl rfl ?_ ?_ <;> (intro hb; (try simp only [decide_eq_true_eq, decide_eq_false_iff_not, Bool.not_eq_true', Bool.not_eq_false', ne_eq, Decidable.not_not, Option.isNone_iff_eq_none, not_true_eq_false, not_false_eq_true] at hb); try (exfalso; omega))) | (refine v_cond rfl ?_ ?_ <;> (intro hb; (try simp only [decide_eq_true_eq, decide_eq_false_iff_not, Bool.not_eq_true', Bool.not_eq_false', ne_eq, Decidable.not_not, Option.isNone_iff_eq_none, not_true_eq_false, not_false_eq_true] at hb); try (exfalso; omega))) | fail)
    refine ⟨_, (se_drop _ _).ent w0, ?_, rfl⟩
    simp [Prf.may, hm]
  · repeat' (first | (refine go1 ?_; intros) | (refine vl_caseG rfl rfl rfl rfl ?_ ?_ <;> (intro hb; (try simp only [decide_eq_true_eq, decide_eq_false_iff_not, Bool.not_eq_true', Bool.not_eq_false', ne_eq, Decidable.not_not, Option.isNone_iff_eq_none, not_true_eq_false, not_false_eq_true] at hb); try (exfalso; omega))) | (refine v_cond rfl ?_ ?_ <;> (intro hb; (try simp only [decide_eq_true_eq, decide_eq_false_iff_not, Bool.not_eq_true', Bool.not_eq_false', ne_eq, Decidable.not_not, Option.isNone_iff_eq_none, not_true_eq_false, not_false_eq_true] at hb); try (exfalso; omega))) | fail)
    refine ⟨_, (se_drop _ _).ent w0, ?_, rfl⟩
    simp [Prf.may, hm, show p.pl.length ≤ 256 by omega]
/-- What holds of a proof's parts whatever their lengths. -/
structure Prf.ok0 (p : Prf) : Prop where
  key : p.key.length = 32
  kind : p.kind < 256
  other : p.other.length = 32
  dg : Dg p.pl
theorem Prf.ok.ok0 {p : Prf} (h : p.ok) : p.ok0 := ⟨h.key, h.kind, h.other, h.dg⟩
theorem Prf.ok0.len {p : Prf} (h : p.ok0) : p.cells.length = 67 := by simp [Prf.cells, h.key, h.other]
theorem Prf.ok0.f3 {p : Prf} (h : p.ok0) : p.cells[0 + 65]? = some (.slice p.va p.vl.length p.vc) := by
  simp [Prf.cells, List.getElem?_append, h.key, h.other]
theorem Prf.ok0.f4 {p : Prf} (h : p.ok0) : p.cells[0 + 66]? = some (.slice p.pa p.pl.length p.pc) := by
  simp [Prf.cells, List.getElem?_append, h.key, h.other]
/-- It tells a value; the value. -/
noncomputable def Prf.isT (p : Prf) : Bool := p.may && decide (p.kind = 1)
noncomputable def Prf.tl (p : Prf) : List UInt8 := if p.isT then p.vl else []
end Go.Proofs.YtnoihibaoalkaaaDoor
namespace Go.Proofs.YtnoihibaoalkaaaDoor
open Go Go.RowKit
set_option linter.unusedVariables false
set_option linter.unusedSimpArgs false

theorem told_vc (w0 : World) (L : List Asn) (p : Prf) (h : p.ok) [hr : RdC w0 L p.va (bvs p.vl)] :
    VC Tryd.prog w0 15 [.agg p.cells.toArray] L fun v L' => ∃ a' c', v = .tuple #[.slice a' p.tl.length c', .bool p.isT] ∧ L' = ownB a' c' p.tl :: L := by
  have hlen := Prf.len h
  have f1 := Prf.f1 h
  have f3 := Prf.f3 h
  have hvl := h.vl
  refine vc_ent ?_
  refine vc_in rfl rfl ?_
  repeat' (first | (refine go1 ?_; intros) | (refine vl_caseG rfl rfl rfl rfl ?_ ?_ <;> (intro hb; (try simp only [decide_eq_true_eq, decide_eq_false_iff_not, Bool.not_eq_true', Bool.not_eq_false', ne_eq, Decidable.not_not, Option.isNone_iff_eq_none, not_true_eq_false, not_false_eq_true] at hb); try (exfalso; omega))) | (refine v_cond rfl ?_ ?_ <;> (intro hb; (try simp only [decide_eq_true_eq, decide_eq_false_iff_not, Bool.not_eq_true', Bool.not_eq_false', ne_eq, Decidable.not_not, Option.isNone_iff_eq_none, not_true_eq_false, not_false_eq_true] at hb); try (exfalso; omega))) | fail)
  refine vl_o rfl (vo_call rfl rfl ?_)
  refine vc_mono (check_vc w0 _ p h) ?_
  rintro v L' ⟨rfl, rfl⟩
  cases hm : p.may
  · simp only [Bool.false_eq_true, if_false]
    repeat' (first | (refine go1 ?_; intros) | (refine vl_caseG rfl rfl rfl rfl ?_ ?_ <;> (intro hb; (try simp only [decide_eq_true_eq, decide_eq_false_iff_not, Bool.not_eq_true', Bool.not_eq_false', ne_eq, Decidable.not_not, Option.isNone_iff_eq_none, not_true_eq_false, not_false_eq_true] at hb); try (exfalso; omega))) | (refine v_cond rfl ?_ ?_ <;> (intro hb; (try simp only [decide_eq_true_eq, decide_eq_false_iff_not, Bool.not_eq_true', Bool.not_eq_false', ne_eq, Decidable.not_not, Option.isNone_iff_eq_none, not_true_eq_false, not_false_eq_true] at hb); try (exfalso; omega))) | fail)
    refine ⟨_, ((se_drop _ _).trans (se_own_nil 5 1 _)).ent w0, none, 0, ?_, ?_⟩
    · simp [Prf.tl, Prf.isT, hm]
    · simp [Prf.tl, Prf.isT, hm]; rfl
  · simp only [if_true]
    repeat' (first | (refine go1 ?_; intros) | (refine vl_caseG rfl rfl rfl rfl ?_ ?_ <;> (intro hb; (try simp only [decide_eq_true_eq, decide_eq_false_iff_not, Bool.not_eq_true', Bool.not_eq_false', ne_eq, Decidable.not_not, Option.isNone_iff_eq_none, not_true_eq_false, not_false_eq_true] at hb); try (exfalso; omega))) | (refine v_cond rfl ?_ ?_ <;> (intro hb; (try simp only [decide_eq_true_eq, decide_eq_false_iff_not, Bool.not_eq_true', Bool.not_eq_false', ne_eq, Decidable.not_not, Option.isNone_iff_eq_none, not_true_eq_false, not_false_eq_true] at hb); try (exfalso; omega))) | fail)
    · refine ⟨_, ((se_drop _ _).trans (se_own_nil 5 1 _)).ent w0, none, 0, ?_, ?_⟩
      · simp [Prf.tl, Prf.isT, hm, show ¬ p.kind = 1 by omega]
      · simp [Prf.tl, Prf.isT, hm, show ¬ p.kind = 1 by omega]; rfl
    · refine vl_o rfl (vo_call rfl rfl ?_)
      refine vc_mono (clone_vc w0 _ p.va p.vc p.vl rfl hvl) ?_
      rintro v L' ⟨a', c', _, rfl, rfl⟩
      repeat' (first | (refine go1 ?_; intros) | (refine vl_caseG rfl rfl rfl rfl ?_ ?_ <;> (intro hb; (try simp only [decide_eq_true_eq, decide_eq_false_iff_not, Bool.not_eq_true', Bool.not_eq_false', ne_eq, Decidable.not_not, Option.isNone_iff_eq_none, not_true_eq_false, not_false_eq_true] at hb); try (exfalso; omega))) | (refine v_cond rfl ?_ ?_ <;> (intro hb; (try simp only [decide_eq_true_eq, decide_eq_false_iff_not, Bool.not_eq_true', Bool.not_eq_false', ne_eq, Decidable.not_not, Option.isNone_iff_eq_none, not_true_eq_false, not_false_eq_true] at hb); try (exfalso; omega))) | fail)
      refine ⟨_, ((se_swap _ _ _).trans (se_drop _ _)).ent w0, a', c', ?_, ?_⟩
      · simp [Prf.tl, Prf.isT, hm, show p.kind = 1 by omega]
      · simp [Prf.tl, Prf.isT, hm, show p.kind = 1 by omega]

end Go.Proofs.YtnoihibaoalkaaaDoor
namespace Go.Proofs.YtnoihibaoalkaaaDoor
open Go Go.RowKit
set_option linter.unusedVariables false
set_option linter.unusedSimpArgs false

end Go.Proofs.YtnoihibaoalkaaaDoor
namespace Go.Proofs.YtnoihibaoalkaaaDoor
open Go Go.RowKit
set_option linter.unusedVariables false
set_option linter.unusedSimpArgs false

abbrev ownD (a : Option Addr) (cap : Nat) (xs : List (List UInt8)) : Asn := own 26 32 a xs.length cap (bvs xs.flatten)

instance oc_prf (p : Prf) : OC p.cells := (inferInstance : OC (bvs p.key ++ (.int .u8 p.kind :: (bvs p.other ++ [.slice p.va p.vl.length p.vc, .slice p.pa p.pl.length p.pc]))))
end Go.Proofs.YtnoihibaoalkaaaDoor
