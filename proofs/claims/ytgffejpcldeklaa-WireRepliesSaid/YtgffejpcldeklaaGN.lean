/-
  What may be a proof. The program's check of a proof. Checks of a proof; what it tells. What a proof tells; twins of proofs. The program's proof.Same.
-/
import Derived.Test.YtgffejpcldeklaaGG
import Derived.Test.YtgffejpcldeklaaGK
set_option linter.unusedVariables false
set_option linter.unusedSimpArgs false
set_option linter.unusedSectionVars false
set_option maxRecDepth 100000
set_option maxHeartbeats 1000000
namespace Go.Proofs.Ytgffejpcldeklaa
open Go Go.RowKit

open Classical in
/-- How many bits two keys share. -/
noncomputable def sh (a b : List UInt8) : Nat := if h : ∃ n, IsSh a b n then Classical.choose h else 0
theorem IsSh.sh {a b : List UInt8} {n : Nat} (h : IsSh a b n) : sh a b = n := by
  have hx : ∃ n, IsSh a b n := ⟨n, h⟩
  unfold Proofs.Ytgffejpcldeklaa.sh
  rw [dif_pos hx]
  exact (Classical.choose_spec hx).uniq h

/-- A proof's content. -/
structure Prf where
  key : List UInt8
  kind : Nat
  other : List UInt8
  va : Option Addr
  vc : Nat
  vl : List UInt8
  pa : Option Addr
  pc : Nat
  pl : List (List UInt8)
def Prf.cells (p : Prf) : List Value := bvs p.key ++ (.int .u8 p.kind :: (bvs p.other ++ [.slice p.va p.vl.length p.vc, .slice p.pa p.pl.length p.pc]))
structure Prf.ok (p : Prf) : Prop where
  key : p.key.length = 32
  kind : p.kind < 256
  other : p.other.length = 32
  dg : Dg p.pl
  vl : p.vl.length ≤ 1000000000000
  pl : p.pl.length ≤ 1000000000000
theorem Prf.len {p : Prf} (h : p.ok) : p.cells.length = 67 := by simp [Prf.cells, h.key, h.other]
theorem Prf.f0 {p : Prf} (h : p.ok) : (p.cells.drop (0 + 0)).take 32 = bvs p.key := by
  have := h.key
  simp only [Prf.cells, Nat.add_zero, List.drop_zero]
  rw [List.take_left' (by simpa)]
theorem Prf.f1 {p : Prf} (h : p.ok) : p.cells[0 + 32]? = some (.int .u8 p.kind) := by
  have := h.key
  simp [Prf.cells, List.getElem?_append, h.key]
theorem Prf.f2 {p : Prf} (h : p.ok) : (p.cells.drop (0 + 33)).take 32 = bvs p.other := by
  have := h.key
  have := h.other
  simp [Prf.cells, List.drop_append, List.take_append, h.key, h.other, List.drop_of_length_le]
theorem Prf.f3 {p : Prf} (h : p.ok) : p.cells[0 + 65]? = some (.slice p.va p.vl.length p.vc) := by
  simp [Prf.cells, List.getElem?_append, h.key, h.other]
theorem Prf.f4 {p : Prf} (h : p.ok) : p.cells[0 + 66]? = some (.slice p.pa p.pl.length p.pc) := by
  simp [Prf.cells, List.getElem?_append, h.key, h.other]
def zero32 : List UInt8 := List.replicate 32 0
/-- It may be one. -/
noncomputable def Prf.may1 (p : Prf) : Bool := (if p.kind = 0 then decide (p.other = zero32) && decide (p.vl.length = 0) else if p.kind = 1 then decide (p.other = zero32) && okVal p.vl.length else if p.kind = 2 then okVal p.vl.length && (decide (p.other ≠ p.key) && decide (p.pl.length ≤ sh p.other p.key)) else false)
noncomputable def Prf.may (p : Prf) : Bool := decide (p.pl.length ≤ 256) && p.may1

theorem may_vc (w0 : World) (L : List Asn) (p : Prf) (h : p.ok) :
    VC Try.prog w0 51 [.agg p.cells.toArray] L fun v L' => v = .bool p.may ∧ L' = L := by
  have f0 := Prf.f0 h
  have f1 := Prf.f1 h
  have f2 := Prf.f2 h
  have f3 := Prf.f3 h
  have f4 := Prf.f4 h
  have hlk := h.key
  have hlo := h.other
  have hvl := h.vl
  have hpl := h.pl
  have hkd := h.kind
  unfold Prf.may Prf.may1
  generalize p.cells = cs at *
  refine vc_ent ?_
  refine vc_in rfl rfl ?_
  repeat' (first | (refine go1 ?_; intros) | (refine goCC ?_ ?_ <;> (intro hb; (try simp only [hSQ] at hb); try (exfalso; omega))) | fail)
  · refine ⟨_, (se_drop _ _).ent w0, ?_, rfl⟩
    rw [decide_eq_false (show ¬ p.pl.length ≤ 256 by omega)]; rfl
  · refine ⟨_, (se_drop _ _).ent w0, ?_, rfl⟩
    simp [zero32, hb, show p.kind = 0 by omega, show p.pl.length ≤ 256 by omega]
  · refine ⟨_, (se_drop _ _).ent w0, ?_, rfl⟩
    have hz : ¬ p.other = zero32 := hb
    simp [hz, show p.kind = 0 by omega, show p.pl.length ≤ 256 by omega]
  · refine clV ?_
    refine vc_mono (val5_vc w0 _ p.va p.vl.length p.vc (by omega)) ?_
    rintro v L' ⟨rfl, rfl⟩
    repeat' (first | (refine go1 ?_; intros) | (refine goCC ?_ ?_ <;> (intro hb; (try simp only [hSQ] at hb); try (exfalso; omega))) | fail)
    refine ⟨_, (se_drop _ _).ent w0, ?_, rfl⟩
    simp [zero32, hb, show p.kind = 1 by omega, show p.pl.length ≤ 256 by omega]
  · refine ⟨_, (se_drop _ _).ent w0, ?_, rfl⟩
    have hz : ¬ p.other = zero32 := hb
    simp [hz, show p.kind = 1 by omega, show p.pl.length ≤ 256 by omega]
  · have hk2 : p.kind = 2 := by omega
    have hpl2 : p.pl.length ≤ 256 := by omega
    simp only [hk2, hpl2, decide_true, Bool.true_and, show ¬ (2 = 0) by decide, show ¬ (2 = 1) by decide, if_false, if_true]
    (refine v_draw0 [] (by kernel_rfl) ?_ <;> (refine tA 0 ?_) <;> (refine tA 1 ?_))
    first | refine va_one 2 (by kernel_rfl) rfl rfl (vo_call rfl rfl ?_) | refine va_one 2 (by kernel_rfl) rfl rfl (vo_callV rfl rfl rfl ?_)
    refine vc_mono (val5_vc w0 _ p.va p.vl.length p.vc (by omega)) ?_
    rintro v L' ⟨rfl, rfl⟩
    refine ⟨.inr entD, ?_⟩
    cases hv : okVal p.vl.length
    · ((refine tA 3 ?_) <;> (first | refine tG 4 ?_ | refine pG 4 ?_ | (refine va_caseG 4 rfl rfl rfl rfl rfl ?_ ?_ <;> (intro hb; (try simp only [hSQ] at hb); try (exfalso; omega)) <;> first | refine tG 4 ?_ | refine pG 4 ?_)) <;> (first | refine tG 5 ?_ | refine pG 5 ?_ | (refine va_caseG 5 rfl rfl rfl rfl rfl ?_ ?_ <;> (intro hb; (try simp only [hSQ] at hb); try (exfalso; omega)) <;> first | refine tG 5 ?_ | refine pG 5 ?_)) <;> (first | refine tG 6 ?_ | refine pG 6 ?_ | (refine va_caseG 6 rfl rfl rfl rfl rfl ?_ ?_ <;> (intro hb; (try simp only [hSQ] at hb); try (exfalso; omega)) <;> first | refine tG 6 ?_ | refine pG 6 ?_)) <;> (first | refine tG 7 ?_ | refine pG 7 ?_ | (refine va_caseG 7 rfl rfl rfl rfl rfl ?_ ?_ <;> (intro hb; (try simp only [hSQ] at hb); try (exfalso; omega)) <;> first | refine tG 7 ?_ | refine pG 7 ?_)) <;> (first | refine tG 8 ?_ | refine pG 8 ?_ | (refine va_caseG 8 rfl rfl rfl rfl rfl ?_ ?_ <;> (intro hb; (try simp only [hSQ] at hb); try (exfalso; omega)) <;> first | refine tG 8 ?_ | refine pG 8 ?_)) <;> (refine tA 9 ?_) <;> (refine tA 10 ?_) <;> (first | refine tG 11 ?_ | refine pG 11 ?_ | (refine va_caseG 11 rfl rfl rfl rfl rfl ?_ ?_ <;> (intro hb; (try simp only [hSQ] at hb); try (exfalso; omega)) <;> first | refine tG 11 ?_ | refine pG 11 ?_)) <;> (first | refine tG 12 ?_ | refine pG 12 ?_ | (refine va_caseG 12 rfl rfl rfl rfl rfl ?_ ?_ <;> (intro hb; (try simp only [hSQ] at hb); try (exfalso; omega)) <;> first | refine tG 12 ?_ | refine pG 12 ?_)) <;> (first | refine tG 13 ?_ | refine pG 13 ?_ | (refine va_caseG 13 rfl rfl rfl rfl rfl ?_ ?_ <;> (intro hb; (try simp only [hSQ] at hb); try (exfalso; omega)) <;> first | refine tG 13 ?_ | refine pG 13 ?_)) <;> (first | refine tG 14 ?_ | refine pG 14 ?_ | (refine va_caseG 14 rfl rfl rfl rfl rfl ?_ ?_ <;> (intro hb; (try simp only [hSQ] at hb); try (exfalso; omega)) <;> first | refine tG 14 ?_ | refine pG 14 ?_)) <;> (first | refine tG 16 ?_ | refine pG 16 ?_ | (refine va_caseG 16 rfl rfl rfl rfl rfl ?_ ?_ <;> (intro hb; (try simp only [hSQ] at hb); try (exfalso; omega)) <;> first | refine tG 16 ?_ | refine pG 16 ?_)) <;> (first | refine tG 17 ?_ | refine pG 17 ?_ | (refine va_caseG 17 rfl rfl rfl rfl rfl ?_ ?_ <;> (intro hb; (try simp only [hSQ] at hb); try (exfalso; omega)) <;> first | refine tG 17 ?_ | refine pG 17 ?_)) <;> (first | refine tG 18 ?_ | refine pG 18 ?_ | (refine va_caseG 18 rfl rfl rfl rfl rfl ?_ ?_ <;> (intro hb; (try simp only [hSQ] at hb); try (exfalso; omega)) <;> first | refine tG 18 ?_ | refine pG 18 ?_)))
      refine pG 15 ?_
      ((first | refine tG 19 ?_ | refine pG 19 ?_ | (refine va_caseG 19 rfl rfl rfl rfl rfl ?_ ?_ <;> (intro hb; (try simp only [hSQ] at hb); try (exfalso; omega)) <;> first | refine tG 19 ?_ | refine pG 19 ?_)) <;> (refine tA 20 ?_) <;> (refine tA 21 ?_) <;> (refine va_done (by kernel_rfl) ?_))
      repeat' (first | (refine go1 ?_; intros) | (refine goCC ?_ ?_ <;> (intro hb; (try simp only [hSQ] at hb); try (exfalso; omega))) | fail)
      exact ⟨_, (se_drop _ _).ent w0, rfl, rfl⟩
    · ((refine tA 3 ?_) <;> (first | refine tG 4 ?_ | refine pG 4 ?_ | (refine va_caseG 4 rfl rfl rfl rfl rfl ?_ ?_ <;> (intro hb; (try simp only [hSQ] at hb); try (exfalso; omega)) <;> first | refine tG 4 ?_ | refine pG 4 ?_)) <;> (first | refine tG 5 ?_ | refine pG 5 ?_ | (refine va_caseG 5 rfl rfl rfl rfl rfl ?_ ?_ <;> (intro hb; (try simp only [hSQ] at hb); try (exfalso; omega)) <;> first | refine tG 5 ?_ | refine pG 5 ?_)) <;> (first | refine tG 6 ?_ | refine pG 6 ?_ | (refine va_caseG 6 rfl rfl rfl rfl rfl ?_ ?_ <;> (intro hb; (try simp only [hSQ] at hb); try (exfalso; omega)) <;> first | refine tG 6 ?_ | refine pG 6 ?_)) <;> (first | refine tG 7 ?_ | refine pG 7 ?_ | (refine va_caseG 7 rfl rfl rfl rfl rfl ?_ ?_ <;> (intro hb; (try simp only [hSQ] at hb); try (exfalso; omega)) <;> first | refine tG 7 ?_ | refine pG 7 ?_)) <;> (first | refine tG 8 ?_ | refine pG 8 ?_ | (refine va_caseG 8 rfl rfl rfl rfl rfl ?_ ?_ <;> (intro hb; (try simp only [hSQ] at hb); try (exfalso; omega)) <;> first | refine tG 8 ?_ | refine pG 8 ?_)) <;> (refine tA 9 ?_) <;> (refine tA 10 ?_) <;> (first | refine tG 11 ?_ | refine pG 11 ?_ | (refine va_caseG 11 rfl rfl rfl rfl rfl ?_ ?_ <;> (intro hb; (try simp only [hSQ] at hb); try (exfalso; omega)) <;> first | refine tG 11 ?_ | refine pG 11 ?_)) <;> (first | refine tG 12 ?_ | refine pG 12 ?_ | (refine va_caseG 12 rfl rfl rfl rfl rfl ?_ ?_ <;> (intro hb; (try simp only [hSQ] at hb); try (exfalso; omega)) <;> first | refine tG 12 ?_ | refine pG 12 ?_)) <;> (first | refine tG 13 ?_ | refine pG 13 ?_ | (refine va_caseG 13 rfl rfl rfl rfl rfl ?_ ?_ <;> (intro hb; (try simp only [hSQ] at hb); try (exfalso; omega)) <;> first | refine tG 13 ?_ | refine pG 13 ?_)) <;> (first | refine tG 14 ?_ | refine pG 14 ?_ | (refine va_caseG 14 rfl rfl rfl rfl rfl ?_ ?_ <;> (intro hb; (try simp only [hSQ] at hb); try (exfalso; omega)) <;> first | refine tG 14 ?_ | refine pG 14 ?_)) <;> (first | refine tG 16 ?_ | refine pG 16 ?_ | (refine va_caseG 16 rfl rfl rfl rfl rfl ?_ ?_ <;> (intro hb; (try simp only [hSQ] at hb); try (exfalso; omega)) <;> first | refine tG 16 ?_ | refine pG 16 ?_)) <;> (first | refine tG 17 ?_ | refine pG 17 ?_ | (refine va_caseG 17 rfl rfl rfl rfl rfl ?_ ?_ <;> (intro hb; (try simp only [hSQ] at hb); try (exfalso; omega)) <;> first | refine tG 17 ?_ | refine pG 17 ?_)) <;> (first | refine tG 18 ?_ | refine pG 18 ?_ | (refine va_caseG 18 rfl rfl rfl rfl rfl ?_ ?_ <;> (intro hb; (try simp only [hSQ] at hb); try (exfalso; omega)) <;> first | refine tG 18 ?_ | refine pG 18 ?_)))
      · first | refine va_oneG 15 (by kernel_rfl) rfl rfl rfl rfl rfl rfl (vo_call rfl rfl ?_) | refine va_oneG 15 (by kernel_rfl) rfl rfl rfl rfl rfl rfl (vo_callV rfl rfl rfl ?_)
        refine vc_mono (sh4_vc w0 _ p.other p.key hlo hlk) ?_
        rintro v L' ⟨s, hs, rfl, rfl⟩
        rw [hs.sh]
        have hs256 := hs.1
        refine ⟨.inr entD, ?_⟩
        ((first | refine tG 19 ?_ | refine pG 19 ?_ | (refine va_caseG 19 rfl rfl rfl rfl rfl ?_ ?_ <;> (intro hb; (try simp only [hSQ] at hb); try (exfalso; omega)) <;> first | refine tG 19 ?_ | refine pG 19 ?_)) <;> (refine tA 20 ?_) <;> (refine tA 21 ?_) <;> (refine va_done (by kernel_rfl) ?_))
        repeat' (first | (refine go1 ?_; intros) | (refine goCC ?_ ?_ <;> (intro hb; (try simp only [hSQ] at hb); try (exfalso; omega))) | fail)
        refine ⟨_, (se_drop _ _).ent w0, ?_, rfl⟩
        simp [hb]
      · refine pG 15 ?_
        ((first | refine tG 19 ?_ | refine pG 19 ?_ | (refine va_caseG 19 rfl rfl rfl rfl rfl ?_ ?_ <;> (intro hb; (try simp only [hSQ] at hb); try (exfalso; omega)) <;> first | refine tG 19 ?_ | refine pG 19 ?_)) <;> (refine tA 20 ?_) <;> (refine tA 21 ?_) <;> (refine va_done (by kernel_rfl) ?_))
        repeat' (first | (refine go1 ?_; intros) | (refine goCC ?_ ?_ <;> (intro hb; (try simp only [hSQ] at hb); try (exfalso; omega))) | fail)
        refine ⟨_, (se_drop _ _).ent w0, ?_, rfl⟩
        simp [hb]
  · refine ⟨_, (se_drop _ _).ent w0, ?_, rfl⟩
    simp [show ¬ p.kind = 0 by omega, show ¬ p.kind = 1 by omega, show ¬ p.kind = 2 by omega]
end Go.Proofs.Ytgffejpcldeklaa
namespace Go.Proofs.Ytgffejpcldeklaa
open Go Go.RowKit

theorem chk1_vc (w0 : World) (L : List Asn) (g : Nat) (p : Prf) (h : p.ok) :
    VC Try.prog w0 62 [.pointer (some ⟨g, 0, none⟩)] (blk g 33 p.cells :: L) fun v L' => v = .bool p.may1 ∧ L' = blk g 33 p.cells :: L := by
  have f0 := Prf.f0 h
  have f1 := Prf.f1 h
  have f2 := Prf.f2 h
  have f3 := Prf.f3 h
  have f4 := Prf.f4 h
  have hlk := h.key
  have hlo := h.other
  have hvl := h.vl
  have hpl := h.pl
  have hkd := h.kind
  unfold Prf.may1
  generalize p.cells = cs at *
  refine vc_in rfl rfl ?_
  repeat' (first | (refine go1 ?_; intros) | (refine goCC ?_ ?_ <;> (intro hb; (try simp only [hSQ] at hb); try (exfalso; omega))) | fail)
  · refine ⟨?_, rfl⟩
    simp [zero32, hb, show p.kind = 0 by omega]
  · refine ⟨?_, rfl⟩
    have hz : ¬ p.other = zero32 := hb
    simp [hz, show p.kind = 0 by omega]
  · refine clV ?_
    refine vc_mono (value_vc w0 _ p.va p.vl.length p.vc (by omega)) ?_
    rintro v L' ⟨rfl, rfl⟩
    repeat' (first | (refine go1 ?_; intros) | (refine goCC ?_ ?_ <;> (intro hb; (try simp only [hSQ] at hb); try (exfalso; omega))) | fail)
    refine ⟨?_, rfl⟩
    simp [zero32, hb, show p.kind = 1 by omega]
  · refine ⟨?_, rfl⟩
    have hz : ¬ p.other = zero32 := hb
    simp [hz, show p.kind = 1 by omega]
  · have hk2 : p.kind = 2 := by omega
    simp only [hk2, show ¬ (2 = 0) by decide, show ¬ (2 = 1) by decide, if_false, if_true]
    (refine v_draw0 [] (by kernel_rfl) ?_ <;> (refine tA 0 ?_) <;> (refine tA 1 ?_))
    first | refine va_one 2 (by kernel_rfl) rfl rfl (vo_call rfl rfl ?_) | refine va_one 2 (by kernel_rfl) rfl rfl (vo_callV rfl rfl rfl ?_)
    refine vc_mono (value_vc w0 _ p.va p.vl.length p.vc (by omega)) ?_
    rintro v L' ⟨rfl, rfl⟩
    refine ⟨.inr entD, ?_⟩
    cases hv : okVal p.vl.length
    · ((refine tA 3 ?_) <;> (first | refine tG 4 ?_ | refine pG 4 ?_ | (refine va_caseG 4 rfl rfl rfl rfl rfl ?_ ?_ <;> (intro hb; (try simp only [hSQ] at hb); try (exfalso; omega)) <;> first | refine tG 4 ?_ | refine pG 4 ?_)) <;> (first | refine tG 5 ?_ | refine pG 5 ?_ | (refine va_caseG 5 rfl rfl rfl rfl rfl ?_ ?_ <;> (intro hb; (try simp only [hSQ] at hb); try (exfalso; omega)) <;> first | refine tG 5 ?_ | refine pG 5 ?_)) <;> (first | refine tG 6 ?_ | refine pG 6 ?_ | (refine va_caseG 6 rfl rfl rfl rfl rfl ?_ ?_ <;> (intro hb; (try simp only [hSQ] at hb); try (exfalso; omega)) <;> first | refine tG 6 ?_ | refine pG 6 ?_)) <;> (first | refine tG 7 ?_ | refine pG 7 ?_ | (refine va_caseG 7 rfl rfl rfl rfl rfl ?_ ?_ <;> (intro hb; (try simp only [hSQ] at hb); try (exfalso; omega)) <;> first | refine tG 7 ?_ | refine pG 7 ?_)) <;> (first | refine tG 8 ?_ | refine pG 8 ?_ | (refine va_caseG 8 rfl rfl rfl rfl rfl ?_ ?_ <;> (intro hb; (try simp only [hSQ] at hb); try (exfalso; omega)) <;> first | refine tG 8 ?_ | refine pG 8 ?_)) <;> (refine tA 9 ?_) <;> (refine tA 10 ?_) <;> (first | refine tG 11 ?_ | refine pG 11 ?_ | (refine va_caseG 11 rfl rfl rfl rfl rfl ?_ ?_ <;> (intro hb; (try simp only [hSQ] at hb); try (exfalso; omega)) <;> first | refine tG 11 ?_ | refine pG 11 ?_)) <;> (first | refine tG 12 ?_ | refine pG 12 ?_ | (refine va_caseG 12 rfl rfl rfl rfl rfl ?_ ?_ <;> (intro hb; (try simp only [hSQ] at hb); try (exfalso; omega)) <;> first | refine tG 12 ?_ | refine pG 12 ?_)) <;> (first | refine tG 13 ?_ | refine pG 13 ?_ | (refine va_caseG 13 rfl rfl rfl rfl rfl ?_ ?_ <;> (intro hb; (try simp only [hSQ] at hb); try (exfalso; omega)) <;> first | refine tG 13 ?_ | refine pG 13 ?_)) <;> (first | refine tG 14 ?_ | refine pG 14 ?_ | (refine va_caseG 14 rfl rfl rfl rfl rfl ?_ ?_ <;> (intro hb; (try simp only [hSQ] at hb); try (exfalso; omega)) <;> first | refine tG 14 ?_ | refine pG 14 ?_)) <;> (first | refine tG 16 ?_ | refine pG 16 ?_ | (refine va_caseG 16 rfl rfl rfl rfl rfl ?_ ?_ <;> (intro hb; (try simp only [hSQ] at hb); try (exfalso; omega)) <;> first | refine tG 16 ?_ | refine pG 16 ?_)) <;> (first | refine tG 17 ?_ | refine pG 17 ?_ | (refine va_caseG 17 rfl rfl rfl rfl rfl ?_ ?_ <;> (intro hb; (try simp only [hSQ] at hb); try (exfalso; omega)) <;> first | refine tG 17 ?_ | refine pG 17 ?_)) <;> (first | refine tG 18 ?_ | refine pG 18 ?_ | (refine va_caseG 18 rfl rfl rfl rfl rfl ?_ ?_ <;> (intro hb; (try simp only [hSQ] at hb); try (exfalso; omega)) <;> first | refine tG 18 ?_ | refine pG 18 ?_)))
      refine pG 15 ?_
      ((first | refine tG 19 ?_ | refine pG 19 ?_ | (refine va_caseG 19 rfl rfl rfl rfl rfl ?_ ?_ <;> (intro hb; (try simp only [hSQ] at hb); try (exfalso; omega)) <;> first | refine tG 19 ?_ | refine pG 19 ?_)) <;> (refine tA 20 ?_) <;> (refine tA 21 ?_) <;> (refine va_done (by kernel_rfl) ?_))
      repeat' (first | (refine go1 ?_; intros) | (refine goCC ?_ ?_ <;> (intro hb; (try simp only [hSQ] at hb); try (exfalso; omega))) | fail)
      exact ⟨rfl, rfl⟩
    · ((refine tA 3 ?_) <;> (first | refine tG 4 ?_ | refine pG 4 ?_ | (refine va_caseG 4 rfl rfl rfl rfl rfl ?_ ?_ <;> (intro hb; (try simp only [hSQ] at hb); try (exfalso; omega)) <;> first | refine tG 4 ?_ | refine pG 4 ?_)) <;> (first | refine tG 5 ?_ | refine pG 5 ?_ | (refine va_caseG 5 rfl rfl rfl rfl rfl ?_ ?_ <;> (intro hb; (try simp only [hSQ] at hb); try (exfalso; omega)) <;> first | refine tG 5 ?_ | refine pG 5 ?_)) <;> (first | refine tG 6 ?_ | refine pG 6 ?_ | (refine va_caseG 6 rfl rfl rfl rfl rfl ?_ ?_ <;> (intro hb; (try simp only [hSQ] at hb); try (exfalso; omega)) <;> first | refine tG 6 ?_ | refine pG 6 ?_)) <;> (first | refine tG 7 ?_ | refine pG 7 ?_ | (refine va_caseG 7 rfl rfl rfl rfl rfl ?_ ?_ <;> (intro hb; (try simp only [hSQ] at hb); try (exfalso; omega)) <;> first | refine tG 7 ?_ | refine pG 7 ?_)) <;> (first | refine tG 8 ?_ | refine pG 8 ?_ | (refine va_caseG 8 rfl rfl rfl rfl rfl ?_ ?_ <;> (intro hb; (try simp only [hSQ] at hb); try (exfalso; omega)) <;> first | refine tG 8 ?_ | refine pG 8 ?_)) <;> (refine tA 9 ?_) <;> (refine tA 10 ?_) <;> (first | refine tG 11 ?_ | refine pG 11 ?_ | (refine va_caseG 11 rfl rfl rfl rfl rfl ?_ ?_ <;> (intro hb; (try simp only [hSQ] at hb); try (exfalso; omega)) <;> first | refine tG 11 ?_ | refine pG 11 ?_)) <;> (first | refine tG 12 ?_ | refine pG 12 ?_ | (refine va_caseG 12 rfl rfl rfl rfl rfl ?_ ?_ <;> (intro hb; (try simp only [hSQ] at hb); try (exfalso; omega)) <;> first | refine tG 12 ?_ | refine pG 12 ?_)) <;> (first | refine tG 13 ?_ | refine pG 13 ?_ | (refine va_caseG 13 rfl rfl rfl rfl rfl ?_ ?_ <;> (intro hb; (try simp only [hSQ] at hb); try (exfalso; omega)) <;> first | refine tG 13 ?_ | refine pG 13 ?_)) <;> (first | refine tG 14 ?_ | refine pG 14 ?_ | (refine va_caseG 14 rfl rfl rfl rfl rfl ?_ ?_ <;> (intro hb; (try simp only [hSQ] at hb); try (exfalso; omega)) <;> first | refine tG 14 ?_ | refine pG 14 ?_)) <;> (first | refine tG 16 ?_ | refine pG 16 ?_ | (refine va_caseG 16 rfl rfl rfl rfl rfl ?_ ?_ <;> (intro hb; (try simp only [hSQ] at hb); try (exfalso; omega)) <;> first | refine tG 16 ?_ | refine pG 16 ?_)) <;> (first | refine tG 17 ?_ | refine pG 17 ?_ | (refine va_caseG 17 rfl rfl rfl rfl rfl ?_ ?_ <;> (intro hb; (try simp only [hSQ] at hb); try (exfalso; omega)) <;> first | refine tG 17 ?_ | refine pG 17 ?_)) <;> (first | refine tG 18 ?_ | refine pG 18 ?_ | (refine va_caseG 18 rfl rfl rfl rfl rfl ?_ ?_ <;> (intro hb; (try simp only [hSQ] at hb); try (exfalso; omega)) <;> first | refine tG 18 ?_ | refine pG 18 ?_)))
      · first | refine va_oneG 15 (by kernel_rfl) rfl rfl rfl rfl rfl rfl (vo_call rfl rfl ?_) | refine va_oneG 15 (by kernel_rfl) rfl rfl rfl rfl rfl rfl (vo_callV rfl rfl rfl ?_)
        refine vc_mono (shp_vc w0 _ p.other p.key hlo hlk) ?_
        rintro v L' ⟨s, hs, rfl, rfl⟩
        rw [hs.sh]
        have hs256 := hs.1
        refine ⟨.inr entD, ?_⟩
        ((first | refine tG 19 ?_ | refine pG 19 ?_ | (refine va_caseG 19 rfl rfl rfl rfl rfl ?_ ?_ <;> (intro hb; (try simp only [hSQ] at hb); try (exfalso; omega)) <;> first | refine tG 19 ?_ | refine pG 19 ?_)) <;> (refine tA 20 ?_) <;> (refine tA 21 ?_) <;> (refine va_done (by kernel_rfl) ?_))
        repeat' (first | (refine go1 ?_; intros) | (refine goCC ?_ ?_ <;> (intro hb; (try simp only [hSQ] at hb); try (exfalso; omega))) | fail)
        refine ⟨?_, rfl⟩
        simp [hb]
      · refine pG 15 ?_
        ((first | refine tG 19 ?_ | refine pG 19 ?_ | (refine va_caseG 19 rfl rfl rfl rfl rfl ?_ ?_ <;> (intro hb; (try simp only [hSQ] at hb); try (exfalso; omega)) <;> first | refine tG 19 ?_ | refine pG 19 ?_)) <;> (refine tA 20 ?_) <;> (refine tA 21 ?_) <;> (refine va_done (by kernel_rfl) ?_))
        repeat' (first | (refine go1 ?_; intros) | (refine goCC ?_ ?_ <;> (intro hb; (try simp only [hSQ] at hb); try (exfalso; omega))) | fail)
        refine ⟨?_, rfl⟩
        simp [hb]
  · refine ⟨?_, rfl⟩
    simp [show ¬ p.kind = 0 by omega, show ¬ p.kind = 1 by omega, show ¬ p.kind = 2 by omega]

end Go.Proofs.Ytgffejpcldeklaa
namespace Go.Proofs.Ytgffejpcldeklaa
open Go Go.RowKit

theorem check_vc (w0 : World) (L : List Asn) (p : Prf) (h : p.ok) :
    VC Try.prog w0 23 [.agg p.cells.toArray] L fun v L' => v = .int .i64 (if p.may then 0 else 8) ∧ L' = L := by
  have f4 := Prf.f4 h
  have hpl := h.pl
  refine vc_ent ?_
  refine vc_in rfl rfl ?_
  repeat' (first | (refine goN ?_; intros) | (refine goCC ?_ ?_ <;> (intro hb; (try simp only [hSQ] at hb); try (exfalso; omega))) | fail)
  · refine ⟨_, (se_drop _ _).ent w0, ?_, rfl⟩
    simp [Prf.may, show ¬ p.pl.length ≤ 256 by omega]
  refine vl_o rfl (vo_callV rfl rfl rfl ?_)
  refine vc_mono (chk1_vc w0 _ _ p h) ?_
  rintro v L' ⟨rfl, rfl⟩
  cases hm : p.may1
  · repeat' (first | (refine go1 ?_; intros) | (refine goCC ?_ ?_ <;> (intro hb; (try simp only [hSQ] at hb); try (exfalso; omega))) | fail)
    refine ⟨_, (se_drop _ _).ent w0, ?_, rfl⟩
    simp [Prf.may, hm]
  · repeat' (first | (refine go1 ?_; intros) | (refine goCC ?_ ?_ <;> (intro hb; (try simp only [hSQ] at hb); try (exfalso; omega))) | fail)
    refine ⟨_, (se_drop _ _).ent w0, ?_, rfl⟩
    simp [Prf.may, hm, show p.pl.length ≤ 256 by omega]
/-- What holds of a proof's parts whatever their lengths. -/
structure Prf.ok0 (p : Prf) : Prop where
  key : p.key.length = 32
  kind : p.kind < 256
  other : p.other.length = 32
  dg : Dg p.pl
theorem Prf.ok.ok0 {p : Prf} (h : p.ok) : p.ok0 := ⟨h.key, h.kind, h.other, h.dg⟩
theorem Prf.ok0.len {p : Prf} (h : p.ok0) : p.cells.length = 67 := by simp [Prf.cells, h.key, h.other]
theorem Prf.ok0.f3 {p : Prf} (h : p.ok0) : p.cells[0 + 65]? = some (.slice p.va p.vl.length p.vc) := by
  simp [Prf.cells, List.getElem?_append, h.key, h.other]
theorem Prf.ok0.f4 {p : Prf} (h : p.ok0) : p.cells[0 + 66]? = some (.slice p.pa p.pl.length p.pc) := by
  simp [Prf.cells, List.getElem?_append, h.key, h.other]
theorem great7_vc (w0 : World) (L : List Asn) (p : Prf) (h : p.ok0) :
    VC Try.prog w0 4 [.agg p.cells.toArray] L fun v L' => v = .bool (decide (100 < p.vl.length ∨ 300 < p.pl.length)) ∧ L' = L := by
  have f3 := h.f3
  have f4 := h.f4
  refine vc_ent ?_
  refine vc_in rfl rfl ?_
  repeat' (first | (refine go1 ?_; intros) | (refine goCC ?_ ?_ <;> (intro hb; (try simp only [hSQ] at hb); try (exfalso; omega))) | fail)
  all_goals refine ⟨_, (se_drop _ _).ent w0, congrArg Value.bool ?_, rfl⟩
  all_goals first | exact decide_eq_decide.2 (by omega) | exact (decide_eq_true (by omega)).symm | exact (decide_eq_false (by omega)).symm

end Go.Proofs.Ytgffejpcldeklaa
namespace Go.Proofs.Ytgffejpcldeklaa
open Go Go.RowKit

theorem same7_vc (w0 : World) (L : List Asn) (p q : Prf) (h : p.ok) (k : q.ok) [hr : RdC w0 L p.va (bvs p.vl)] [hq : RdC w0 L q.va (bvs q.vl)] [hr2 : RdC w0 L p.pa (bvs p.pl.flatten)] [hq2 : RdC w0 L q.pa (bvs q.pl.flatten)] :
    VC Try.prog w0 30 [.agg p.cells.toArray, .agg q.cells.toArray] L fun v L' => v = .bool (decide (p.key = q.key ∧ p.kind = q.kind ∧ p.other = q.other ∧ p.vl = q.vl ∧ p.pl = q.pl)) ∧ L' = L := by
  have f0 := Prf.f0 h
  have f1 := Prf.f1 h
  have f2 := Prf.f2 h
  have f3 := Prf.f3 h
  have f4 := Prf.f4 h
  have hlk := h.key
  have hlo := h.other
  have g0 := Prf.f0 k
  have g1 := Prf.f1 k
  have g2 := Prf.f2 k
  have g3 := Prf.f3 k
  have g4 := Prf.f4 k
  have glk := k.key
  have glo := k.other
  refine vc_ent ?_
  refine vc_in rfl rfl ?_
  repeat' (first | (refine go1 ?_; intros) | (refine goCC ?_ ?_ <;> (intro hb; (try simp only [hSQ] at hb); try (exfalso; omega))) | fail)
  · have hkk : p.kind = q.kind := by omega
    rename_i hb1 hb2
    refine clV ?_
    refine vc_mono (same_vc w0 _ p.va p.vc p.vl q.va q.vc q.vl rfl rfl) ?_
    rintro v L' ⟨rfl, rfl⟩
    by_cases hv : p.vl = q.vl
    · rw [decide_eq_true hv]
      repeat' (first | (refine go1 ?_; intros) | (refine goCC ?_ ?_ <;> (intro hb; (try simp only [hSQ] at hb); try (exfalso; omega))) | fail)
      refine clV ?_
      refine vc_mono (sameD_vc w0 _ p.pa p.pc p.pl q.pa q.pc q.pl rfl rfl h.dg k.dg h.pl) ?_
      rintro v L' ⟨rfl, rfl⟩
      repeat' (first | (refine go1 ?_; intros) | (refine goCC ?_ ?_ <;> (intro hb; (try simp only [hSQ] at hb); try (exfalso; omega))) | fail)
      refine ⟨_, ((se_drop _ _).trans (se_drop _ _)).ent w0, ?_, rfl⟩
      simp [hb1, hkk, hb, hv]
    · rw [decide_eq_false hv]
      repeat' (first | (refine go1 ?_; intros) | (refine goCC ?_ ?_ <;> (intro hb; (try simp only [hSQ] at hb); try (exfalso; omega))) | fail)
      refine ⟨_, ((se_drop _ _).trans (se_drop _ _)).ent w0, ?_, rfl⟩
      simp [hv]
  · refine ⟨_, ((se_drop _ _).trans (se_drop _ _)).ent w0, ?_, rfl⟩
    simp [hb]
  · refine ⟨_, ((se_drop _ _).trans (se_drop _ _)).ent w0, ?_, rfl⟩
    simp [show ¬ p.kind = q.kind by omega]
  · refine ⟨_, ((se_drop _ _).trans (se_drop _ _)).ent w0, ?_, rfl⟩
    simp [hb]
end Go.Proofs.Ytgffejpcldeklaa
namespace Go.Proofs.Ytgffejpcldeklaa
open Go Go.RowKit

theorem samep_vc (w0 : World) (L : List Asn) (p q : Prf) (h : p.ok) (k : q.ok) [hr : RdC w0 L p.va (bvs p.vl)] [hq : RdC w0 L q.va (bvs q.vl)] [hr2 : RdC w0 L p.pa (bvs p.pl.flatten)] [hq2 : RdC w0 L q.pa (bvs q.pl.flatten)] :
    VC Try.prog w0 31 [.agg p.cells.toArray, .agg q.cells.toArray] L fun v L' => v = .bool (decide (p.key = q.key ∧ p.kind = q.kind ∧ p.other = q.other ∧ p.vl = q.vl ∧ p.pl = q.pl)) ∧ L' = L := by
  have f0 := Prf.f0 h
  have f1 := Prf.f1 h
  have f2 := Prf.f2 h
  have f3 := Prf.f3 h
  have f4 := Prf.f4 h
  have hlk := h.key
  have hlo := h.other
  have g0 := Prf.f0 k
  have g1 := Prf.f1 k
  have g2 := Prf.f2 k
  have g3 := Prf.f3 k
  have g4 := Prf.f4 k
  have glk := k.key
  have glo := k.other
  refine vc_ent ?_
  refine vc_in rfl rfl ?_
  repeat' (first | (refine go1 ?_; intros) | (refine goCC ?_ ?_ <;> (intro hb; (try simp only [hSQ] at hb); try (exfalso; omega))) | fail)
  · have hkk : p.kind = q.kind := by omega
    rename_i hb1 hb2
    refine clV ?_
    refine vc_mono (eqB_vc w0 _ p.va p.vc p.vl q.va q.vc q.vl rfl rfl h.vl) ?_
    rintro v L' ⟨rfl, rfl⟩
    by_cases hv : p.vl = q.vl
    · rw [decide_eq_true hv]
      repeat' (first | (refine go1 ?_; intros) | (refine goCC ?_ ?_ <;> (intro hb; (try simp only [hSQ] at hb); try (exfalso; omega))) | fail)
      refine clV ?_
      refine vc_mono (eqD_vc w0 _ p.pa p.pc p.pl q.pa q.pc q.pl rfl rfl h.dg k.dg h.pl) ?_
      rintro v L' ⟨rfl, rfl⟩
      repeat' (first | (refine go1 ?_; intros) | (refine goCC ?_ ?_ <;> (intro hb; (try simp only [hSQ] at hb); try (exfalso; omega))) | fail)
      refine ⟨_, ((se_drop _ _).trans (se_drop _ _)).ent w0, ?_, rfl⟩
      simp [hb1, hkk, hb, hv]
    · rw [decide_eq_false hv]
      repeat' (first | (refine go1 ?_; intros) | (refine goCC ?_ ?_ <;> (intro hb; (try simp only [hSQ] at hb); try (exfalso; omega))) | fail)
      refine ⟨_, ((se_drop _ _).trans (se_drop _ _)).ent w0, ?_, rfl⟩
      simp [hv]
  · refine ⟨_, ((se_drop _ _).trans (se_drop _ _)).ent w0, ?_, rfl⟩
    simp [hb]
  · refine ⟨_, ((se_drop _ _).trans (se_drop _ _)).ent w0, ?_, rfl⟩
    simp [show ¬ p.kind = q.kind by omega]
  · refine ⟨_, ((se_drop _ _).trans (se_drop _ _)).ent w0, ?_, rfl⟩
    simp [hb]
end Go.Proofs.Ytgffejpcldeklaa
