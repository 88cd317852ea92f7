/-
  A reply that is not well is put into bytes.
-/
import Derived.Test.YtcpcbgfnglnkcaaDoorWirO
import Derived.Test.YtcpcbgfnglnkcaaDoorWirS
import Derived.Test.YtcpcbgfnglnkcaaDoorGC
set_option linter.unusedVariables false
set_option linter.unusedSimpArgs false
set_option linter.unusedSectionVars false

namespace Go.Proofs.YtcpcbgfnglnkcaaDoor
open Go Go.RowKit
open Classical

theorem numOf_one (k : UInt8) : numOf [k] = k.toNat := by
  have := k.toNat_lt
  simp only [numOf, List.foldl_cons, List.foldl_nil]
  omega
theorem step_num {S : Type} (g off size most : Nat) (set : S → Nat → S) (B : List UInt8) (bad : Bool) (a : S) : PK.step (.num g off size most set) ⟨B, bad, a⟩ = ⟨dropX size B, bad || decide (B.length < size) || decide (most < numOf (takeX size B)), set a (min (numOf (takeX size B)) most)⟩ := by
  show (⟨_, bad || decide (B.length < size) || !!decide (most < numOf (takeX size B)), _⟩ : RG S) = _
  rw [Bool.not_not]
  rfl
theorem kcR_of {k : UInt8} {c : Nat} (hk : k.toNat ≤ 8) (hc : c ≤ 999) (X : List UInt8) : kcR (k :: (digs c 2 ++ X)) = ⟨X, false, (k.toNat, c)⟩ := by
  have h2 : (digs c 2).length = 2 := digs_length c 2
  have hn : numOf (digs c 2) = c := numOf_digs 2 c (by decide) (by omega)
  have a1 : takeX 1 (k :: (digs c 2 ++ X)) = [k] := by unfold takeX; rw [if_neg (by simp)]; rfl
  have a2 : dropX 1 (k :: (digs c 2 ++ X)) = digs c 2 ++ X := by unfold dropX; rw [if_neg (by simp)]; rfl
  have a3 : takeX 2 (digs c 2 ++ X) = digs c 2 := by unfold takeX; rw [if_neg (by rw [List.length_append, h2]; omega), List.take_left' h2]
  have a4 : dropX 2 (digs c 2 ++ X) = X := by unfold dropX; rw [if_neg (by rw [List.length_append, h2]; omega), List.drop_left' h2]
  show PK.step (.num 0 0 2 999 (fun s v => (s.1, v))) (PK.step (.num 0 0 1 8 (fun s v => (v, s.2))) ⟨k :: (digs c 2 ++ X), false, (0, 0)⟩) = _
  rw [step_num 0 0 1 8, a1, a2, step_num 0 0 2 999, a3, a4, numOf_one, hn]
  have e1 : decide ((k :: (digs c 2 ++ X)).length < 1) = false := decide_eq_false (by simp)
  have e2 : decide ((digs c 2 ++ X).length < 2) = false := decide_eq_false (by rw [List.length_append, h2]; omega)
  have e3 : decide (8 < k.toNat) = false := decide_eq_false (by omega)
  have e4 : decide (999 < c) = false := decide_eq_false (by omega)
  rw [e1, e2, e3, e4, Nat.min_eq_left hk, Nat.min_eq_left hc]
  rfl
theorem rpC_in {k c : Nat} (hk : k ≤ 8) (hc : c ≤ 999) (h0 : 0 < k ∨ c ≠ 0) : (rpC k c).inR = true := by
  unfold Rp.inR
  have hkn : (UInt8.ofNat k).toNat = k := by simp; omega
  rw [decide_eq_true, show (rpC k c).ev.hd.may = true from hd0_may]
  · rfl
  · refine ⟨?_, ?_, ?_, ?_, ?_, ?_, ?_⟩
    · show (UInt8.ofNat k).toNat ≤ 8
      omega
    · show 0 < (UInt8.ofNat k).toNat ∨ (c : Int) ≠ 0
      omega
    · show (0 : Int) ≤ (c : Int)
      omega
    · show (c : Int) ≤ 999
      omega
    · exact Int.le_refl _
    · exact Int.le_refl _
    · exact Int.le_refl _
theorem inR_of {r : Rp} (h : r.inR = true) : r.kind.toNat ≤ 8 ∧ (0 < r.kind.toNat ∨ r.code ≠ 0) ∧ 0 ≤ r.code ∧ r.code ≤ 999 ∧ 0 ≤ r.height ∧ 0 ≤ r.sub ∧ 0 ≤ r.ev.num := by
  unfold Rp.inR at h
  simp only [Bool.and_eq_true, decide_eq_true_eq] at h
  exact h.1.1
/-- A reply of a code, in bytes. -/
noncomputable def replyC (r : Rp) : List UInt8 × Int := if r.inR = true ∧ (rpC r.kind.toNat r.code.toNat).same r then (r.kind :: digs r.code.toNat 2, 0) else ([], 8)
set_option maxRecDepth 100000 in
set_option maxHeartbeats 4000000 in
theorem replyC_vc (w0 : World) (L : List Asn) (r : Rp) (h : r.ok) (hcode : r.code ≠ 0) [hr : RdC w0 L r.prf.va (bvs r.prf.vl)] [hr2 : RdC w0 L r.prf.pa (bvs r.prf.pl.flatten)] :
    VC Tryd.prog w0 6 [.agg r.cells.toArray] L fun v L' => ∃ a' c', v = .tuple #[.slice a' (replyC r).1.length c', .int .i64 (replyC r).2] ∧ L' = ownB a' c' (replyC r).1 :: L := by
  have hcl := Rp.len h
  have f0 := Rp.f0 h
  have f1 := Rp.f1 h
  refine vc_ent ?_
  refine vc_in rfl rfl ?_
  have hoc : OC r.cells := oc_rp r
  obtain ⟨rcs, hrcs⟩ : ∃ rcs, rcs = r.cells := ⟨_, rfl⟩
  rw [← hrcs] at hcl f0 f1 hoc ⊢
  repeat' (first | (refine go1 ?_; intros) | (refine goCC ?_ ?_ <;> (intro hb; (try simp only [hSQ] at hb); try (exfalso; omega))) | fail)
  refine clV ?_
  rw [hrcs]
  refine vc_mono (within_vc w0 _ r h) ?_
  rintro v L' ⟨rfl, rfl⟩
  rw [← hrcs]
  cases hin : r.inR
  · have e : replyC r = ([], 8) := by unfold replyC; rw [if_neg (by rw [hin]; simp)]
    rw [e]
    repeat' (first | (refine go1 ?_; intros) | (refine goCC ?_ ?_ <;> (intro hb; (try simp only [hSQ] at hb); try (exfalso; omega))) | fail)
    exact ⟨_, (SE.trans (sei_drop _ _ L).out (se_own_nil 5 1 _)).ent w0, none, 0, rfl, rfl⟩
  have hh := inR_of hin
  obtain ⟨C, hC⟩ : ∃ C : Nat, r.code = C := ⟨r.code.toNat, by omega⟩
  rw [hC] at f1
  repeat' (first | (refine go1 ?_; intros) | (refine goCC ?_ ?_ <;> (intro hb; (try simp only [hSQ] at hb); try (exfalso; omega))) | fail)
  refine clV ?_
  refine vc_mono (put_vc w0 _ C 2 (by decide) (by decide) (by omega)) ?_
  rintro v L' ⟨a2, c2, rfl, rfl⟩
  have hdl := digs_length C 2
  obtain ⟨D, hD⟩ : ∃ D, D = digs C 2 := ⟨_, rfl⟩
  rw [← hD] at hdl ⊢
  repeat' (first | (refine go1 ?_; intros) | (refine goCC ?_ ?_ <;> (intro hb; (try simp only [hSQ] at hb); try (exfalso; omega))) | fail)
  all_goals first | (exfalso; omega) | skip
  rename_i g3 a3 c3 _ hc3
  have e3 : own 5 1 a3 (1 + 2) c3 ([.int .u8 (r.kind.toNat : Nat)] ++ bvs D) = ownB a3 c3 (r.kind :: D) := by
    unfold ownB
    rw [List.length_cons, hdl]
    rfl
  rw [e3]
  refine clV ?_
  have hCn : r.code.toNat = C := by omega
  have hkc := kcR_of (k := r.kind) (c := C) hh.1 (by omega) []
  rw [List.append_nil, ← hD] at hkc
  have hrr : rcRead (r.kind :: D) = (rpC r.kind.toNat C, 0) := by
    unfold rcRead
    rw [hkc, if_pos ⟨rfl, rfl, rpC_in (k := r.kind.toNat) (c := C) hh.1 (by omega) (by omega)⟩]
  refine vc_mono (rreadC_vc w0 _ a3 c3 (r.kind :: D) (by rw [hkc]; show C ≠ 0; omega) (by rw [List.length_cons, hdl]) (by rw [List.length_cons, hdl]; omega) (by rw [List.length_cons, hdl]; omega)) ?_
  rintro v L' ⟨rfl, rfl⟩
  rw [hrr]
  have hxo : (rpC r.kind.toNat C).ok := rpC_ok (by omega)
  have hxl := Rp.len hxo
  have hoc2 : OC (rpC r.kind.toNat C).cells := oc_rp _
  obtain ⟨xc, hxc⟩ : ∃ xc, xc = (rpC r.kind.toNat C).cells := ⟨_, rfl⟩
  dsimp only
  rw [← hxc] at hxl hoc2 ⊢
  repeat' (first | (refine go1 ?_; intros) | (refine goCC ?_ ?_ <;> (intro hb; (try simp only [hSQ] at hb); try (exfalso; omega))) | fail)
  refine clV ?_
  rw [hxc, hrcs]
  haveI i1 : ∀ M, RdC w0 M (rpC r.kind.toNat C).prf.va (bvs (rpC r.kind.toNat C).prf.vl) := fun M => rdC_nil _ _ _
  haveI i2 : ∀ M, RdC w0 M (rpC r.kind.toNat C).prf.pa (bvs (rpC r.kind.toNat C).prf.pl.flatten) := fun M => rdC_nil _ _ _
  refine vc_mono (wsame_vc w0 _ (rpC r.kind.toNat C) r hxo h) ?_
  rintro v L' ⟨rfl, rfl⟩
  rw [← hxc, ← hrcs]
  by_cases hs : (rpC r.kind.toNat C).same r
  · have e : replyC r = (r.kind :: D, 0) := by unfold replyC; rw [hCn, if_pos ⟨hin, hs⟩, hD]
    rw [e, decide_eq_true hs]
    repeat' (first | (refine go1 ?_; intros) | (refine goCC ?_ ?_ <;> (intro hb; (try simp only [hSQ] at hb); try (exfalso; omega))) | fail)
    exact ⟨_, sei w0 _ (ownB a3 c3 (r.kind :: D) :: L), a3, c3, by rw [List.length_cons, hdl], rfl⟩
  · have e : replyC r = ([], 8) := by unfold replyC; rw [hCn, if_neg (fun q => hs q.2)]
    rw [e, decide_eq_false hs]
    repeat' (first | (refine go1 ?_; intros) | (refine goCC ?_ ?_ <;> (intro hb; (try simp only [hSQ] at hb); try (exfalso; omega))) | fail)
    exact ⟨_, (SE.trans (inferInstance : SEI _ L).out (se_own_nil 5 1 _)).ent w0, none, 0, rfl, rfl⟩
end Go.Proofs.YtcpcbgfnglnkcaaDoor
