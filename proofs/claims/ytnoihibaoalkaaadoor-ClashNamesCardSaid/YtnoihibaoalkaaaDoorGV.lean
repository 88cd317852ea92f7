/-
  What is digested on a proof's road: plain; laws for parts. What is digested on a proof's road: the program's. One step up a proof's road: the program's. Byte strings turned round; what is digested on a proof's road, whole. What is digested on a proof's road: the document's. Roots of proofs, and whether a proof fits one. The chapter's first example; inputs stand in each other.
-/
import Derived.Test.YtnoihibaoalkaaaDoorGN
import Derived.Test.YtnoihibaoalkaaaDoorGJ
import Derived.Test.YtnoihibaoalkaaaDoorGI
import Derived.Test.YtnoihibaoalkaaaDoorTagH
set_option linter.unusedVariables false
set_option linter.unusedSimpArgs false
namespace Go.Proofs.YtnoihibaoalkaaaDoor
open Go Go.RowKit
set_option linter.unusedVariables false
set_option linter.unusedSimpArgs false

/-- What is digested of a proof's end; one step up; all from a place on. -/
def endB (p : Prf) : List UInt8 := if p.kind = 1 then tagB 1 [p.key, p.vl] else if p.kind = 2 then tagB 1 [p.other, p.vl] else tagB 0 []
def stepB (key : List UInt8) (i : Nat) (side r : List UInt8) : List UInt8 := if bitAt key i = 0 then tagB 2 [sha r, side] else tagB 2 [side, sha r]
def fromB (p : Prf) : Nat → List (List UInt8)
  | 0 => [endB p]
  | j + 1 => stepB p.key (p.pl.length - (j + 1)) (p.pl.getD (p.pl.length - (j + 1)) []) ((fromB p j).headD []) :: fromB p j
theorem fromB_len (p : Prf) : ∀ j, (fromB p j).length = j + 1
  | 0 => rfl
  | j + 1 => by simp [fromB, fromB_len p j]
theorem stepB_len (key : List UInt8) (i : Nat) (side r : List UInt8) (h : side.length = 32) : (stepB key i side r).length = 73 := by
  unfold stepB
  split <;> simp [tagB, h, sha_length, digs_length]
theorem endB_len {p : Prf} (h : p.ok) (hv : p.vl.length ≤ 64) : (endB p).length ≤ 200 := by
  unfold endB
  split
  · simp [tagB, h.key, digs_length]; omega
  split
  · simp [tagB, h.other, digs_length]; omega
  · simp [tagB]
theorem fromB_bound {p : Prf} (h : p.ok) (hv : p.vl.length ≤ 64) : ∀ j, j ≤ p.pl.length → ∀ x ∈ fromB p j, x.length ≤ 200
  | 0, _, x, hx => by
    simp only [fromB, List.mem_singleton] at hx
    subst hx; exact endB_len h hv
  | j + 1, hj, x, hx => by
    simp only [fromB, List.mem_cons] at hx
    rcases hx with rfl | hx
    · rw [stepB_len]
      · omega
      · have : p.pl.length - (j + 1) < p.pl.length := by omega
        rw [show p.pl.getD (p.pl.length - (j + 1)) [] = p.pl[p.pl.length - (j + 1)] by simp [List.getD, this]]
        exact h.dg _ (List.getElem_mem this)
    · exact fromB_bound h hv j (by omega) x hx
theorem fromB_head (p : Prf) (j : Nat) : ∃ r rs, fromB p j = r :: rs := by
  cases j with
  | zero => exact ⟨_, _, rfl⟩
  | succ j => exact ⟨_, _, rfl⟩
/-- Who may be a proof has a short value and few sides. -/
theorem Prf.may_pl {p : Prf} (h : p.may = true) : p.pl.length ≤ 256 := by
  unfold Prf.may at h
  simp only [Bool.and_eq_true, decide_eq_true_eq] at h
  exact h.1
theorem Prf.may_vl {p : Prf} (h : p.may = true) : p.vl.length ≤ 64 := by
  unfold Prf.may Prf.may1 at h
  simp only [Bool.and_eq_true, decide_eq_true_eq] at h
  have h2 := h.2
  split at h2
  · simp at h2; have := h2.2; simp [this]
  split at h2
  · simp [okVal] at h2; omega
  split at h2
  · simp [okVal] at h2; omega
  · simp at h2
theorem Prf.may_kind {p : Prf} (h : p.may = true) : p.kind = 0 ∨ p.kind = 1 ∨ p.kind = 2 := by
  unfold Prf.may Prf.may1 at h
  simp only [Bool.and_eq_true, decide_eq_true_eq] at h
  have h2 := h.2
  split at h2
  · exact .inl (by assumption)
  split at h2
  · exact .inr (.inl (by assumption))
  split at h2
  · exact .inr (.inr (by assumption))
  · simp at h2

section
variable {P : Program} {ro : Option Nat} {w0 : World} {n : Nat} {ds : List Deferred} {fr : Fr} {L L' : List Asn} {Q : Exit → List Deferred → Fr → List Asn → Prop} {K : List Deferred → Fr → List Asn → Prop}
variable {ty : TypeId} {pos : String} {after : Array Edge} {gd : Option (Nat × Bool)} {e : TypeId} {agg : Bool} {size bytes : Nat} {z : List Value}
end
theorem tb2_vc (w0 : World) (L : List Asn) (k : Nat) (hk : k < 256) (g : Nat) (a1 : Option Addr) (c1 : Nat) (l1 : List UInt8) (a2 : Option Addr) (c2 : Nat) (l2 : List UInt8) {n1 n2 : Nat} (hn1 : n1 = l1.length) (hn2 : n2 = l2.length) (hB : (tagB k [l1, l2]).length ≤ 1000000000) {i : Nat} [ho : HasOwn L (some ⟨g, 0, none⟩) i 27 1 2 2 [.slice a1 n1 c1, .slice a2 n2 c2]] [h1 : RdC w0 L a1 (bvs l1)] [h2 : RdC w0 L a2 (bvs l2)] :
    VC Tryd.prog w0 46 [.int .u8 k, .slice (some ⟨g, 0, none⟩) 2 2] L fun v L' => ∃ a' cap', v = .slice a' (tagB k [l1, l2]).length cap' ∧ (tagB k [l1, l2]).length ≤ cap' ∧ L' = ownB a' cap' (tagB k [l1, l2]) :: L := by
  subst hn1; subst hn2
  haveI hA : RdC w0 L (some ⟨g, 0, none⟩) (pbs [⟨a1, c1, l1⟩, ⟨a2, c2, l2⟩]) := (inferInstance : RdC w0 L _ [.slice a1 l1.length c1, .slice a2 l2.length c2])
  haveI hB2 : RdPs w0 L [⟨a1, c1, l1⟩, ⟨a2, c2, l2⟩] := ⟨fun p hp => by
    simp only [List.mem_cons, List.not_mem_nil, or_false] at hp
    rcases hp with rfl | rfl <;> infer_instance⟩
  exact tbytesG_vc w0 L k hk (some ⟨g, 0, none⟩) 2 [⟨a1, c1, l1⟩, ⟨a2, c2, l2⟩] rfl hB
end Go.Proofs.YtnoihibaoalkaaaDoor
namespace Go.Proofs.YtnoihibaoalkaaaDoor
open Go Go.RowKit
set_option linter.unusedVariables false
set_option linter.unusedSimpArgs false
open Classical

theorem tb0_vc (w0 : World) (L : List Asn) (k : Nat) (hk : k < 256) : VC Tryd.prog w0 46 [.int .u8 k, .slice none 0 0] L fun v L' => ∃ a' cap', v = .slice a' (tagB k []).length cap' ∧ (tagB k []).length ≤ cap' ∧ L' = ownB a' cap' (tagB k []) :: L := by
  haveI : RdC w0 L none (pbs []) := rdC_nil _ _ _
  haveI := rdPs_nil w0 L
  exact tbytesG_vc w0 L k hk none 0 [] rfl (by simp [tagB, ls])
set_option maxRecDepth 100000 in
set_option maxHeartbeats 2000000 in
theorem vend_vc (w0 : World) (L : List Asn) (p : Prf) (h : p.ok) (hv : p.vl.length ≤ 64) [hr : RdC w0 L p.va (bvs p.vl)] :
    VC Tryd.prog w0 103 [.agg p.cells.toArray] L fun v L' => ∃ a' c', v = .slice a' (endB p).length c' ∧ (endB p).length ≤ c' ∧ L' = ownB a' c' (endB p) :: L := by
  have f0 := Prf.f0 h
  have f1 := Prf.f1 h
  have f2 := Prf.f2 h
  have f3 := Prf.f3 h
  have hk32 := h.key
  have ho32 := h.other
  have hB1 : (tagB 1 [p.key, p.vl]).length ≤ 1000000000 := by simp [tagB, digs_length, hk32]; omega
  have hB2 : (tagB 1 [p.other, p.vl]).length ≤ 1000000000 := by simp [tagB, digs_length, ho32]; omega
  refine vc_ent ?_
  refine vc_in rfl rfl ?_
  by_cases h1 : p.kind = 1
  · rw [show endB p = tagB 1 [p.key, p.vl] by simp [endB, h1]]
    rw [h1] at f1
    generalize p.cells = cs at *
    repeat' (first | (refine go1 ?_; intros) | (refine vl_caseG rfl rfl rfl rfl ?_ ?_ <;> (intro hb; (try simp only [decide_eq_true_eq, decide_eq_false_iff_not, Bool.not_eq_true', Bool.not_eq_false', ne_eq, Decidable.not_not, Option.isNone_iff_eq_none, not_true_eq_false, not_false_eq_true] at hb); try (exfalso; omega))) | (refine v_cond rfl ?_ ?_ <;> (intro hb; (try simp only [decide_eq_true_eq, decide_eq_false_iff_not, Bool.not_eq_true', Bool.not_eq_false', ne_eq, Decidable.not_not, Option.isNone_iff_eq_none, not_true_eq_false, not_false_eq_true] at hb); try (exfalso; omega))) | fail)
    rename_i gp
    haveI r1 : RdC w0 (blk gp 30 cs :: L) (some ⟨gp, 0, none⟩) (bvs p.key) := rdC_part 0 32 f0
    (refine v_draw0 [5] (by kernel_rfl) ?_ <;> (refine va_takeW 0 rfl rfl rfl rfl ?_) <;> (refine va_takeW 1 rfl rfl rfl rfl ?_) <;> (refine va_takeW 2 rfl rfl rfl rfl ?_) <;> (refine va_takeW 3 rfl rfl rfl rfl ?_) <;> (refine va_one 4 (by kernel_rfl) rfl rfl ?_; (first | (refine vo_box rfl rfl rfl ?_; intro _) | (refine vo_alloc rfl ?_; intro _) | (refine vo_isStore ?_; first | (refine vo_isPt0 rfl ?_; refine vo_stWA rfl rfl ?_) | (refine vo_isPt rfl ?_; refine vo_stBA rfl rfl ?_) | (refine vo_stO rfl rfl (by rfl) (by first | rfl | assumption) (by first | assumption | (simp; done) | (simp; omega) | omega) rfl ?_; skip)) | (refine vo_isCall ?_; first | (refine vo_isApp ?_; first | (refine vo_append0A rfl rfl rfl ?_; intro _ _ _ _) | (refine vo_appendA rfl rfl rfl ?_; intro _ _ _ _)) | (refine vo_isCopy ?_; refine vo_copyB rfl rfl rfl (by assumption) (by assumption) (by assumption) (by assumption) ?_) | refine vo_yield rfl rfl rfl rfl rfl ?_ | refine vo_callV rfl rfl rfl (vc_in rfl rfl ?_)) | refine vo_convRow rfl rfl ?_ | (refine vo_isBs ?_; refine vo_buildSlice rfl rfl rfl (by decide) (by repeat' (first | exact trivial | rfl | assumption | refine ⟨?_, ?_⟩ | (simp; done) | (simp; omega))) (by decide) rfl ?_; intro _) | (refine vo_buildSlice0 rfl ?_; intro _) | fail); refine ⟨.inr (SE.ent (by repeat' (first | exact SE.refl _ | refine SE.cons _ ?_ | refine SE.trans (se_drop _ _) ?_)) _), ?_⟩))
    rename_i g
    refine va_one 5 (by kernel_rfl) rfl rfl (vo_call rfl rfl ?_)
    refine vc_mono (tb2_vc w0 _ 1 (by decide) g (some ⟨gp, 0, none⟩) 32 p.key p.va p.vc p.vl hk32.symm rfl hB1 (h1 := rdC_part 0 32 f0)) ?_
    rintro v L' ⟨a', c', rfl, hc, rfl⟩
    generalize tagB 1 [p.key, p.vl] = T at *
    refine ⟨.inr (SE.ent (by repeat' (first | exact SE.refl _ | refine SE.cons _ ?_ | refine SE.trans (se_drop _ _) ?_)) _), ?_⟩
    ((refine va_takePW 6 rfl rfl rfl rfl ?_) <;> (refine va_done (by kernel_rfl) ?_))
    repeat' (first | (refine go1 ?_; intros) | (refine vl_caseG rfl rfl rfl rfl ?_ ?_ <;> (intro hb; (try simp only [decide_eq_true_eq, decide_eq_false_iff_not, Bool.not_eq_true', Bool.not_eq_false', ne_eq, Decidable.not_not, Option.isNone_iff_eq_none, not_true_eq_false, not_false_eq_true] at hb); try (exfalso; omega))) | (refine v_cond rfl ?_ ?_ <;> (intro hb; (try simp only [decide_eq_true_eq, decide_eq_false_iff_not, Bool.not_eq_true', Bool.not_eq_false', ne_eq, Decidable.not_not, Option.isNone_iff_eq_none, not_true_eq_false, not_false_eq_true] at hb); try (exfalso; omega))) | fail)
    exact ⟨ownB a' c' T :: L, sei _ _ _, a', c', rfl, hc, rfl⟩
  by_cases h2 : p.kind = 2
  · rw [show endB p = tagB 1 [p.other, p.vl] by simp [endB, h2]]
    rw [h2] at f1
    generalize p.cells = cs at *
    repeat' (first | (refine go1 ?_; intros) | (refine vl_caseG rfl rfl rfl rfl ?_ ?_ <;> (intro hb; (try simp only [decide_eq_true_eq, decide_eq_false_iff_not, Bool.not_eq_true', Bool.not_eq_false', ne_eq, Decidable.not_not, Option.isNone_iff_eq_none, not_true_eq_false, not_false_eq_true] at hb); try (exfalso; omega))) | (refine v_cond rfl ?_ ?_ <;> (intro hb; (try simp only [decide_eq_true_eq, decide_eq_false_iff_not, Bool.not_eq_true', Bool.not_eq_false', ne_eq, Decidable.not_not, Option.isNone_iff_eq_none, not_true_eq_false, not_false_eq_true] at hb); try (exfalso; omega))) | fail)
    rename_i gp
    (refine v_draw0 [5] (by kernel_rfl) ?_ <;> (refine va_takeW 0 rfl rfl rfl rfl ?_) <;> (refine va_takeW 1 rfl rfl rfl rfl ?_) <;> (refine va_takeW 2 rfl rfl rfl rfl ?_) <;> (refine va_takeW 3 rfl rfl rfl rfl ?_) <;> (refine va_one 4 (by kernel_rfl) rfl rfl ?_; (first | (refine vo_box rfl rfl rfl ?_; intro _) | (refine vo_alloc rfl ?_; intro _) | (refine vo_isStore ?_; first | (refine vo_isPt0 rfl ?_; refine vo_stWA rfl rfl ?_) | (refine vo_isPt rfl ?_; refine vo_stBA rfl rfl ?_) | (refine vo_stO rfl rfl (by rfl) (by first | rfl | assumption) (by first | assumption | (simp; done) | (simp; omega) | omega) rfl ?_; skip)) | (refine vo_isCall ?_; first | (refine vo_isApp ?_; first | (refine vo_append0A rfl rfl rfl ?_; intro _ _ _ _) | (refine vo_appendA rfl rfl rfl ?_; intro _ _ _ _)) | (refine vo_isCopy ?_; refine vo_copyB rfl rfl rfl (by assumption) (by assumption) (by assumption) (by assumption) ?_) | refine vo_yield rfl rfl rfl rfl rfl ?_ | refine vo_callV rfl rfl rfl (vc_in rfl rfl ?_)) | refine vo_convRow rfl rfl ?_ | (refine vo_isBs ?_; refine vo_buildSlice rfl rfl rfl (by decide) (by repeat' (first | exact trivial | rfl | assumption | refine ⟨?_, ?_⟩ | (simp; done) | (simp; omega))) (by decide) rfl ?_; intro _) | (refine vo_buildSlice0 rfl ?_; intro _) | fail); refine ⟨.inr (SE.ent (by repeat' (first | exact SE.refl _ | refine SE.cons _ ?_ | refine SE.trans (se_drop _ _) ?_)) _), ?_⟩))
    rename_i g
    refine va_one 5 (by kernel_rfl) rfl rfl (vo_call rfl rfl ?_)
    refine vc_mono (tb2_vc w0 _ 1 (by decide) g (some ⟨gp, 33, none⟩) 32 p.other p.va p.vc p.vl ho32.symm rfl hB2 (h1 := rdC_part 33 32 (by simpa using f2))) ?_
    rintro v L' ⟨a', c', rfl, hc, rfl⟩
    generalize tagB 1 [p.other, p.vl] = T at *
    refine ⟨.inr (SE.ent (by repeat' (first | exact SE.refl _ | refine SE.cons _ ?_ | refine SE.trans (se_drop _ _) ?_)) _), ?_⟩
    ((refine va_takePW 6 rfl rfl rfl rfl ?_) <;> (refine va_done (by kernel_rfl) ?_))
    repeat' (first | (refine go1 ?_; intros) | (refine vl_caseG rfl rfl rfl rfl ?_ ?_ <;> (intro hb; (try simp only [decide_eq_true_eq, decide_eq_false_iff_not, Bool.not_eq_true', Bool.not_eq_false', ne_eq, Decidable.not_not, Option.isNone_iff_eq_none, not_true_eq_false, not_false_eq_true] at hb); try (exfalso; omega))) | (refine v_cond rfl ?_ ?_ <;> (intro hb; (try simp only [decide_eq_true_eq, decide_eq_false_iff_not, Bool.not_eq_true', Bool.not_eq_false', ne_eq, Decidable.not_not, Option.isNone_iff_eq_none, not_true_eq_false, not_false_eq_true] at hb); try (exfalso; omega))) | fail)
    exact ⟨ownB a' c' T :: L, sei _ _ _, a', c', rfl, hc, rfl⟩
  · rw [show endB p = tagB 0 [] by simp [endB, h1, h2]]
    have hkk := h.kind
    have e1 : ¬ ((p.kind : Int) = 1) := by omega
    have e2 : ¬ ((p.kind : Int) = 2) := by omega
    generalize p.cells = cs at *
    repeat' (first | (refine go1 ?_; intros) | (refine vl_caseG rfl rfl rfl rfl ?_ ?_ <;> (intro hb; (try simp only [decide_eq_true_eq, decide_eq_false_iff_not, Bool.not_eq_true', Bool.not_eq_false', ne_eq, Decidable.not_not, Option.isNone_iff_eq_none, not_true_eq_false, not_false_eq_true] at hb); try (exfalso; omega))) | (refine v_cond rfl ?_ ?_ <;> (intro hb; (try simp only [decide_eq_true_eq, decide_eq_false_iff_not, Bool.not_eq_true', Bool.not_eq_false', ne_eq, Decidable.not_not, Option.isNone_iff_eq_none, not_true_eq_false, not_false_eq_true] at hb); try (exfalso; omega))) | fail)
    refine vl_o rfl (vo_call rfl rfl ?_)
    refine vc_mono (tb0_vc w0 _ 0 (by decide)) ?_
    rintro v L' ⟨a', c', rfl, hc, rfl⟩
    generalize tagB 0 [] = T at *
    repeat' (first | (refine go1 ?_; intros) | (refine vl_caseG rfl rfl rfl rfl ?_ ?_ <;> (intro hb; (try simp only [decide_eq_true_eq, decide_eq_false_iff_not, Bool.not_eq_true', Bool.not_eq_false', ne_eq, Decidable.not_not, Option.isNone_iff_eq_none, not_true_eq_false, not_false_eq_true] at hb); try (exfalso; omega))) | (refine v_cond rfl ?_ ?_ <;> (intro hb; (try simp only [decide_eq_true_eq, decide_eq_false_iff_not, Bool.not_eq_true', Bool.not_eq_false', ne_eq, Decidable.not_not, Option.isNone_iff_eq_none, not_true_eq_false, not_false_eq_true] at hb); try (exfalso; omega))) | fail)
    exact ⟨ownB a' c' T :: L, sei _ _ _, a', c', rfl, hc, rfl⟩
end Go.Proofs.YtnoihibaoalkaaaDoor
namespace Go.Proofs.YtnoihibaoalkaaaDoor
open Go Go.RowKit
set_option linter.unusedVariables false
set_option linter.unusedSimpArgs false
open Classical

theorem stepB_0 {key : List UInt8} {i : Nat} {side r : List UInt8} (h : bitAt key i = 0) : stepB key i side r = tagB 2 [sha r, side] := by simp [stepB, h]
theorem stepB_1 {key : List UInt8} {i : Nat} {side r : List UInt8} (h : ¬ bitAt key i = 0) : stepB key i side r = tagB 2 [side, sha r] := by simp [stepB, h]
/-- What the closure holds. -/
abbrev vinM (L : List Asn) (go gp : Nat) (cs : List Value) (a : Option Addr) (c : Nat) (qs : List PB) : List Asn := own 27 1 a qs.length c (pbs qs) :: blk go 109 [.slice a qs.length c] :: blk gp 30 cs :: psA qs :: L
set_option maxRecDepth 100000 in
set_option maxHeartbeats 4000000 in
theorem vin1_vc (w0 : World) (L : List Asn) [hK : RdA w0 (some ⟨0, 0, none⟩) (wds K64)] (go gp : Nat) (p : Prf) (h : p.ok) (hpl : p.pl.length ≤ 256) (i : Nat) (hi : i < p.pl.length) (a : Option Addr) (c : Nat) (qs : List PB) (h0 : 0 < qs.length) (hqs : qs.length ≤ 257) (hb : ∀ x ∈ ls qs, x.length ≤ 200) [hr2 : RdC w0 L p.pa (bvs p.pl.flatten)] :
    VC Tryd.prog w0 104 [.int .i64 i, .pointer (some ⟨go, 0, none⟩), .pointer (some ⟨gp, 0, none⟩)] (vinM L go gp p.cells a c qs) fun v L' => ∃ a' c' q, q.l = stepB p.key i p.pl[i] (qs[qs.length - 1]'(by omega)).l ∧ Ent w0 L' (vinM L go gp p.cells a' c' (qs ++ [q])) := by
  have f0 := Prf.f0 h
  have f4 := Prf.f4 h
  have hk32 := h.key
  have hlen := Prf.len h
  have hg := pbs_get qs (qs.length - 1) (by omega)
  have hql : (qs[qs.length - 1]'(by omega)).l.length ≤ 200 := hb _ (List.mem_map.2 ⟨_, List.getElem_mem _, rfl⟩)
  obtain ⟨q, hq⟩ : ∃ q, q = qs[qs.length - 1]'(by omega) := ⟨_, rfl⟩
  rw [← hq] at hql ⊢
  rw [← hq] at hg
  have hmem : q ∈ qs := by rw [hq]; exact List.getElem_mem _
  have hsl : (p.pl[i]).length = 32 := h.dg _ (List.getElem_mem _)
  have hbt := bitAt_lt p.key i
  haveI hps : RdPs w0 (vinM L go gp p.cells a c qs) qs := inferInstance
  haveI hrq : RdC w0 (vinM L go gp p.cells a c qs) q.a (bvs q.l) := hps.out q hmem
  refine vc_ent ?_
  refine vc_in rfl rfl ?_
  generalize p.cells = cs at *
  repeat' (first | (refine go1 ?_; intros) | (refine vl_caseG rfl rfl rfl rfl ?_ ?_ <;> (intro hb; (try simp only [decide_eq_true_eq, decide_eq_false_iff_not, Bool.not_eq_true', Bool.not_eq_false', ne_eq, Decidable.not_not, Option.isNone_iff_eq_none, not_true_eq_false, not_false_eq_true] at hb); try (exfalso; omega))) | (refine v_cond rfl ?_ ?_ <;> (intro hb; (try simp only [decide_eq_true_eq, decide_eq_false_iff_not, Bool.not_eq_true', Bool.not_eq_false', ne_eq, Decidable.not_not, Option.isNone_iff_eq_none, not_true_eq_false, not_false_eq_true] at hb); try (exfalso; omega))) | fail)
  rename_i g1
  refine vl_o rfl (vo_call rfl rfl ?_)
  refine vc_mono (of_vc w0 _ (some ⟨g1, 0, none⟩) 1 q rfl (by omega) (hr := (inferInstance : RdC w0 _ _ [.slice q.a q.l.length q.cap]))) ?_
  rintro v L' ⟨rfl, rfl⟩
  have hS := sha_length q.l
  have hst : (bitAt p.key i = 0 → stepB p.key i p.pl[i] q.l = tagB 2 [sha q.l, p.pl[i]]) ∧ (¬ bitAt p.key i = 0 → stepB p.key i p.pl[i] q.l = tagB 2 [p.pl[i], sha q.l]) := ⟨stepB_0, stepB_1⟩
  generalize sha q.l = S at *
  generalize stepB p.key i p.pl[i] q.l = T at *
  repeat' (first | (refine go1 ?_; intros) | (refine vl_caseG rfl rfl rfl rfl ?_ ?_ <;> (intro hb; (try simp only [decide_eq_true_eq, decide_eq_false_iff_not, Bool.not_eq_true', Bool.not_eq_false', ne_eq, Decidable.not_not, Option.isNone_iff_eq_none, not_true_eq_false, not_false_eq_true] at hb); try (exfalso; omega))) | (refine v_cond rfl ?_ ?_ <;> (intro hb; (try simp only [decide_eq_true_eq, decide_eq_false_iff_not, Bool.not_eq_true', Bool.not_eq_false', ne_eq, Decidable.not_not, Option.isNone_iff_eq_none, not_true_eq_false, not_false_eq_true] at hb); try (exfalso; omega))) | fail)
  refine vl_o rfl (vo_call rfl rfl ?_)
  refine vc_mono (pbit_vc w0 _ p.key hk32 i (by omega)) ?_
  rintro v L' ⟨rfl, rfl⟩
  obtain ⟨D, hD⟩ : ∃ D, D = p.pl[i] := ⟨_, rfl⟩
  rw [← hD] at hsl hst
  have hdat := h.dg.bat i hi
  have hfx := h.dg.len
  have hpx : 0 < p.pl.flatten.length := by omega
  rw [← hD] at hdat
  have hpb : ∀ a c l, pbs qs ++ [.slice a (List.length l) c] = pbs (qs ++ [⟨a, c, l⟩]) := by intros; simp [pbs, PB.v]
  obtain ⟨Z, hZ⟩ : ∃ Z, Z = bvs (List.replicate 32 0) := ⟨_, rfl⟩
  have hZl : Z.length = 32 := by rw [hZ]; simp
  have hSl : (bvs S).length = 32 := by simp [hS]
  have hDl : (bvs D).length = 32 := by simp [hsl]
  by_cases hb0 : bitAt p.key i = 0
  · have hT := hst.1 hb0
    rw [hb0]
    repeat' (first | (refine go1 ?_; intros) | (refine vl_caseG rfl rfl rfl rfl ?_ ?_ <;> (intro hb; (try simp only [decide_eq_true_eq, decide_eq_false_iff_not, Bool.not_eq_true', Bool.not_eq_false', ne_eq, Decidable.not_not, Option.isNone_iff_eq_none, not_true_eq_false, not_false_eq_true] at hb); try (exfalso; omega))) | (refine v_cond rfl ?_ ?_ <;> (intro hb; (try simp only [decide_eq_true_eq, decide_eq_false_iff_not, Bool.not_eq_true', Bool.not_eq_false', ne_eq, Decidable.not_not, Option.isNone_iff_eq_none, not_true_eq_false, not_false_eq_true] at hb); try (exfalso; omega))) | fail)
    rw [← hZ]
    rename_i g4 g7
    have s1 : splice (Z ++ Z) (0 + 0) (bvs S) = bvs S ++ Z := by
      have := splice_mid [] Z Z (bvs S) 0 rfl (by omega)
      simpa using this
    have s2 : splice (bvs S ++ Z) (0 + 32) (bvs D) = bvs S ++ bvs D := by
      have := splice_mid (bvs S) Z [] (bvs D) 32 (by omega) (by omega)
      simpa using this
    refine v_draw0 [10, 12] (by kernel_rfl) ?_
    refine va_takeA 0 rfl rfl rfl rfl ?_
    refine va_takeP 1 rfl rfl rfl rfl (by kernel_rfl) (fun _ _ _ _ h => h) (.inl (SE.ent (by repeat' (first | exact SE.refl _ | refine SE.cons _ ?_ | refine SE.trans (se_drop _ _) ?_)) _)) (by (first | exact vq_move rfl | exact vq_assign rfl | (apply vq_isBin; first | exact vq_lt rfl rfl | exact vq_eq rfl rfl | exact vq_ne rfl rfl | (apply vq_isOp .add; exact vq_add rfl rfl (by first | exact wr_add (by omega) | exact wu_add (by omega) | exact wr_id (by omega) (by omega) | rfl)) | (apply vq_isOp .sub; exact vq_minus rfl rfl (by first | exact wr_sub (by omega) (by omega) | exact wu_sub (by omega) (by omega) | exact wr_id (by omega) (by omega) | rfl)) | exact vq_gt rfl rfl | exact vq_le rfl rfl | exact vq_ge rfl rfl | (apply vq_isOp .mul; exact vq_mul rfl rfl (by first | exact wr_mul (by omega) | exact wr_id (by omega) (by omega) | rfl)) | (apply vq_isOp .or; exact vq_or rfl rfl (by rfl)) | (apply vq_isOp .and; exact vq_and rfl rfl (by rfl)) | (apply vq_isOp .xor; exact vq_xor rfl rfl (by rfl)) | (apply vq_isOp .shl; exact vq_shl rfl rfl (by omega) (by rfl)) | (apply vq_isOp .shr; exact vq_shr rfl rfl (by omega) (by rfl)) | (apply vq_isOp .quo; exact vq_quo rfl rfl (by decide) (by first | exact q8_i64 (by omega) | exact q2_u8 (by omega) | exact q4_i64 (by omega) | assumption | rfl)) | (apply vq_isOp .rem; exact vq_rem rfl rfl (by decide) (by first | exact r8 | exact r2 | exact r4 | exact r64 | assumption | rfl)) | exact vq_eqNil rfl rfl | exact vq_eqBool rfl rfl | (apply vq_isOp .eql; exact vq_eqB rfl rfl (by first | assumption | (simp; done)) (by first | assumption | (simp; done))) | (apply vq_isOp .neq; first | exact vq_neBool rfl rfl | exact vq_neB rfl rfl (by first | assumption | (simp; done)) (by first | assumption | (simp; done)))) | (apply vq_isLoad; first | (apply vq_isPt; exact rfl; first | (apply vq_isOne; exact vq_ldB rfl (by first | rfl | assumption)) | (apply vq_isPt0; exact rfl; apply vq_isAgg; exact vq_ldW rfl (by first | rfl | assumption | (simp; done) | (simp; assumption))) | (apply vq_isAgg; exact vq_ldP rfl (by assumption) (by first | assumption | (simp; done) | (simp; assumption)))) | (apply vq_isPtA; exact rfl; first | (apply vq_isOne; exact vq_ld1 rfl (by first | assumption | rfl)) | exact vq_ldA rfl (by assumption) (by first | assumption | (simp; done) | (simp; assumption))) | fail) | exact vq_lenSl rfl | (apply vq_isIx; first | (apply vq_ixSl; exact rfl; exact vq_index rfl rfl (by omega) (by omega) (by first | assumption | (simp; done) | (simp; omega) | (rw [bvs_length]; omega)) (by first | exact ix_1 | exact ix_s _ | rfl)) | (apply vq_ixPt; exact rfl; exact vq_indexArr rfl rfl (by omega) (by omega) (by first | exact ix_1 | exact ix_s _ | rfl)) | exact vq_indexArrA rfl rfl (by first | assumption | (simp; done) | (rw [bvs_length]; omega) | (simp; omega)) (by omega) (by omega) (by first | exact ix_1 | exact ix_s _ | rfl)) | exact vq_extract rfl rfl | exact vq_pickT rfl rfl | exact vq_pickF rfl rfl | exact vq_fieldAddr rfl (by rfl) rfl | exact vq_fieldAddrO rfl (by first | assumption | (simp; done) | (simp; omega)) (by rfl) rfl | exact vq_makeFunc rfl rfl | exact vq_nilCheck rfl | (apply vq_isConv; exact vq_conv rfl (by first | exact wi_id (by omega) | exact wu_id (by omega) | exact wr_id (by omega) (by omega) | rfl)) | (apply vq_isUn; first | exact vq_not rfl | exact vq_xorU rfl (by rfl) | exact vq_neg rfl (by rfl)) | (apply vq_isSlice; first | exact vq_slice rfl (by first | exact bnd_none | exact bnd_nat rfl) (by first | exact bnd_none | exact bnd_nat rfl) (by first | exact bnd_none | exact bnd_nat rfl) rfl (by omega) (by omega) (by omega) | exact vq_sliceArr rfl rfl | exact vq_sliceArrO rfl (by first | assumption | (simp; done) | (simp; omega)) rfl) | (apply vq_isBuild; first | exact vq_build0 | exact vq_buildArr0 | exact vq_build rfl rfl (by first | rfl | (simp [plOf]; done)) (by first | rfl | (simp; done)) | exact vq_buildP rfl (by first | (simp [okS, Value.cells]; done) | (simp [okS, Value.cells]; omega)) rfl) | fail)) ?_
    refine va_takeP 2 (v := .int .u8 ((1 : Nat) : Int)) rfl rfl rfl rfl (by kernel_rfl) (fun _ _ _ _ h => h) (.inl (SE.ent (by repeat' (first | exact SE.refl _ | refine SE.cons _ ?_ | refine SE.trans (se_drop _ _) ?_)) _)) (by (first | exact vq_move rfl | exact vq_assign rfl | (apply vq_isBin; first | exact vq_lt rfl rfl | exact vq_eq rfl rfl | exact vq_ne rfl rfl | (apply vq_isOp .add; exact vq_add rfl rfl (by first | exact wr_add (by omega) | exact wu_add (by omega) | exact wr_id (by omega) (by omega) | rfl)) | (apply vq_isOp .sub; exact vq_minus rfl rfl (by first | exact wr_sub (by omega) (by omega) | exact wu_sub (by omega) (by omega) | exact wr_id (by omega) (by omega) | rfl)) | exact vq_gt rfl rfl | exact vq_le rfl rfl | exact vq_ge rfl rfl | (apply vq_isOp .mul; exact vq_mul rfl rfl (by first | exact wr_mul (by omega) | exact wr_id (by omega) (by omega) | rfl)) | (apply vq_isOp .or; exact vq_or rfl rfl (by rfl)) | (apply vq_isOp .and; exact vq_and rfl rfl (by rfl)) | (apply vq_isOp .xor; exact vq_xor rfl rfl (by rfl)) | (apply vq_isOp .shl; exact vq_shl rfl rfl (by omega) (by rfl)) | (apply vq_isOp .shr; exact vq_shr rfl rfl (by omega) (by rfl)) | (apply vq_isOp .quo; exact vq_quo rfl rfl (by decide) (by first | exact q8_i64 (by omega) | exact q2_u8 (by omega) | exact q4_i64 (by omega) | assumption | rfl)) | (apply vq_isOp .rem; exact vq_rem rfl rfl (by decide) (by first | exact r8 | exact r2 | exact r4 | exact r64 | assumption | rfl)) | exact vq_eqNil rfl rfl | exact vq_eqBool rfl rfl | (apply vq_isOp .eql; exact vq_eqB rfl rfl (by first | assumption | (simp; done)) (by first | assumption | (simp; done))) | (apply vq_isOp .neq; first | exact vq_neBool rfl rfl | exact vq_neB rfl rfl (by first | assumption | (simp; done)) (by first | assumption | (simp; done)))) | (apply vq_isLoad; first | (apply vq_isPt; exact rfl; first | (apply vq_isOne; exact vq_ldB rfl (by first | rfl | assumption)) | (apply vq_isPt0; exact rfl; apply vq_isAgg; exact vq_ldW rfl (by first | rfl | assumption | (simp; done) | (simp; assumption))) | (apply vq_isAgg; exact vq_ldP rfl (by assumption) (by first | assumption | (simp; done) | (simp; assumption)))) | (apply vq_isPtA; exact rfl; first | (apply vq_isOne; exact vq_ld1 rfl (by first | assumption | rfl)) | exact vq_ldA rfl (by assumption) (by first | assumption | (simp; done) | (simp; assumption))) | fail) | exact vq_lenSl rfl | (apply vq_isIx; first | (apply vq_ixSl; exact rfl; exact vq_index rfl rfl (by omega) (by omega) (by first | assumption | (simp; done) | (simp; omega) | (rw [bvs_length]; omega)) (by first | exact ix_1 | exact ix_s _ | rfl)) | (apply vq_ixPt; exact rfl; exact vq_indexArr rfl rfl (by omega) (by omega) (by first | exact ix_1 | exact ix_s _ | rfl)) | exact vq_indexArrA rfl rfl (by first | assumption | (simp; done) | (rw [bvs_length]; omega) | (simp; omega)) (by omega) (by omega) (by first | exact ix_1 | exact ix_s _ | rfl)) | exact vq_extract rfl rfl | exact vq_pickT rfl rfl | exact vq_pickF rfl rfl | exact vq_fieldAddr rfl (by rfl) rfl | exact vq_fieldAddrO rfl (by first | assumption | (simp; done) | (simp; omega)) (by rfl) rfl | exact vq_makeFunc rfl rfl | exact vq_nilCheck rfl | (apply vq_isConv; exact vq_conv rfl (by first | exact wi_id (by omega) | exact wu_id (by omega) | exact wr_id (by omega) (by omega) | rfl)) | (apply vq_isUn; first | exact vq_not rfl | exact vq_xorU rfl (by rfl) | exact vq_neg rfl (by rfl)) | (apply vq_isSlice; first | exact vq_slice rfl (by first | exact bnd_none | exact bnd_nat rfl) (by first | exact bnd_none | exact bnd_nat rfl) (by first | exact bnd_none | exact bnd_nat rfl) rfl (by omega) (by omega) (by omega) | exact vq_sliceArr rfl rfl | exact vq_sliceArrO rfl (by first | assumption | (simp; done) | (simp; omega)) rfl) | (apply vq_isBuild; first | exact vq_build0 | exact vq_buildArr0 | exact vq_build rfl rfl (by first | rfl | (simp [plOf]; done)) (by first | rfl | (simp; done)) | exact vq_buildP rfl (by first | (simp [okS, Value.cells]; done) | (simp [okS, Value.cells]; omega)) rfl) | fail)) ?_
    refine va_takeA 3 rfl rfl rfl rfl ?_
    refine va_takeA 4 rfl rfl rfl rfl ?_
    refine va_takeA 5 rfl rfl rfl rfl ?_
    refine va_takeA 6 rfl rfl rfl rfl ?_
    refine va_takeA 7 rfl rfl rfl rfl ?_
    refine va_takeA 8 rfl rfl rfl rfl ?_
    refine va_takeA 9 rfl rfl rfl rfl ?_
    refine va_one 10 (by kernel_rfl) rfl rfl ?_
    refine vo_stB (off := 0 + 0) (vs := bvs S) (cs' := bvs S ++ Z) rfl rfl rfl (by simp [hS]) (by simp only [List.length_append]; omega) s1 ?_
    refine ⟨.inl (by kernel_rfl), ?_⟩
    refine va_takePA 11 rfl rfl rfl rfl ?_
    refine va_one 12 (by kernel_rfl) rfl rfl ?_
    refine vo_stB (off := 0 + 32) (vs := bvs D) (cs' := bvs S ++ bvs D) rfl rfl rfl (by simp [hsl]) (by simp only [List.length_append]; omega) s2 ?_
    refine ⟨.inl (by kernel_rfl), ?_⟩
    refine va_done (by kernel_rfl) ?_
    skip
    generalize S = A at *
    generalize D = B at *
    have hA32 : A.length = 32 := by assumption
    have hB32 : B.length = 32 := by assumption
    have p1 : ((bvs A ++ bvs B).drop (0 + 0)).take 32 = bvs A := by simp [List.take_append, hA32, List.take_of_length_le]
    have p2 : ((bvs A ++ bvs B).drop (0 + 32)).take 32 = bvs B := by simp [List.drop_append, hA32, hB32, List.take_of_length_le, List.drop_of_length_le]
    have hB1 := fork_bytes A B hA32 hB32
    have hTl : T.length ≤ 1000000000 := by rw [hT]; exact hB1
    repeat' (first | (refine go1 ?_; intros) | (refine vl_caseG rfl rfl rfl rfl ?_ ?_ <;> (intro hb; (try simp only [decide_eq_true_eq, decide_eq_false_iff_not, Bool.not_eq_true', Bool.not_eq_false', ne_eq, Decidable.not_not, Option.isNone_iff_eq_none, not_true_eq_false, not_false_eq_true] at hb); try (exfalso; omega))) | (refine v_cond rfl ?_ ?_ <;> (intro hb; (try simp only [decide_eq_true_eq, decide_eq_false_iff_not, Bool.not_eq_true', Bool.not_eq_false', ne_eq, Decidable.not_not, Option.isNone_iff_eq_none, not_true_eq_false, not_false_eq_true] at hb); try (exfalso; omega))) | fail)
    refine v_draw0 [8, 9] (by kernel_rfl) ?_
    refine va_takeA 0 rfl rfl rfl rfl ?_
    refine va_takeA 1 rfl rfl rfl rfl ?_
    refine va_takeA 2 rfl rfl rfl rfl ?_
    refine va_takeA 3 rfl rfl rfl rfl ?_
    refine va_takeA 4 rfl rfl rfl rfl ?_
    refine va_one 5 (by kernel_rfl) rfl rfl ?_
    (first | (refine vo_box rfl rfl rfl ?_; intro _) | (refine vo_alloc rfl ?_; intro _) | (refine vo_isStore ?_; first | (refine vo_isPt0 rfl ?_; refine vo_stWA rfl rfl ?_) | (refine vo_isPt rfl ?_; refine vo_stBA rfl rfl ?_) | (refine vo_stO rfl rfl (by rfl) (by first | rfl | assumption) (by first | assumption | (simp; done) | (simp; omega) | omega) rfl ?_; skip)) | (refine vo_isCall ?_; first | (refine vo_isApp ?_; first | (refine vo_append0A rfl rfl rfl ?_; intro _ _ _ _) | (refine vo_appendA rfl rfl rfl ?_; intro _ _ _ _)) | (refine vo_isCopy ?_; refine vo_copyB rfl rfl rfl (by assumption) (by assumption) (by assumption) (by assumption) ?_) | refine vo_yield rfl rfl rfl rfl rfl ?_ | refine vo_callV rfl rfl rfl (vc_in rfl rfl ?_)) | refine vo_convRow rfl rfl ?_ | (refine vo_isBs ?_; refine vo_buildSlice rfl rfl rfl (by decide) (by repeat' (first | exact trivial | rfl | assumption | refine ⟨?_, ?_⟩ | (simp; done) | (simp; omega))) (by decide) rfl ?_; intro _) | (refine vo_buildSlice0 rfl ?_; intro _) | fail)
    refine ⟨.inr (sei _ _ _), ?_⟩
    refine va_one 6 (by kernel_rfl) rfl rfl ?_
    first | refine vo_call rfl rfl ?_ | refine vo_callV rfl rfl rfl ?_
    rename_i g2
    refine vc_mono (tb2_vc w0 _ 2 (by decide) g2 (some ⟨g7, 0 + 0, none⟩) 32 A (some ⟨g7, 0 + 32, none⟩) 32 B hA32.symm hB32.symm hB1 (h1 := rdC_part (0 + 0) 32 p1) (h2 := rdC_part (0 + 32) 32 p2)) ?_
    rintro v L' ⟨aT, cT, rfl, hcT, rfl⟩
    rw [← hT]
    refine ⟨.inr (sei _ _ _), ?_⟩
    refine va_one 7 (by kernel_rfl) rfl rfl ?_
    (first | (refine vo_box rfl rfl rfl ?_; intro _) | (refine vo_alloc rfl ?_; intro _) | (refine vo_isStore ?_; first | (refine vo_isPt0 rfl ?_; refine vo_stWA rfl rfl ?_) | (refine vo_isPt rfl ?_; refine vo_stBA rfl rfl ?_) | (refine vo_stO rfl rfl (by rfl) (by first | rfl | assumption) (by first | assumption | (simp; done) | (simp; omega) | omega) rfl ?_; skip)) | (refine vo_isCall ?_; first | (refine vo_isApp ?_; first | (refine vo_append0A rfl rfl rfl ?_; intro _ _ _ _) | (refine vo_appendA rfl rfl rfl ?_; intro _ _ _ _)) | (refine vo_isCopy ?_; refine vo_copyB rfl rfl rfl (by assumption) (by assumption) (by assumption) (by assumption) ?_) | refine vo_yield rfl rfl rfl rfl rfl ?_ | refine vo_callV rfl rfl rfl (vc_in rfl rfl ?_)) | refine vo_convRow rfl rfl ?_ | (refine vo_isBs ?_; refine vo_buildSlice rfl rfl rfl (by decide) (by repeat' (first | exact trivial | rfl | assumption | refine ⟨?_, ?_⟩ | (simp; done) | (simp; omega))) (by decide) rfl ?_; intro _) | (refine vo_buildSlice0 rfl ?_; intro _) | fail)
    refine ⟨.inr (sei _ _ _), ?_⟩
    refine va_one 8 (by kernel_rfl) rfl rfl ?_
    (first | (refine vo_box rfl rfl rfl ?_; intro _) | (refine vo_alloc rfl ?_; intro _) | (refine vo_isStore ?_; first | (refine vo_isPt0 rfl ?_; refine vo_stWA rfl rfl ?_) | (refine vo_isPt rfl ?_; refine vo_stBA rfl rfl ?_) | (refine vo_stO rfl rfl (by rfl) (by first | rfl | assumption) (by first | assumption | (simp; done) | (simp; omega) | omega) rfl ?_; skip)) | (refine vo_isCall ?_; first | (refine vo_isApp ?_; first | (refine vo_append0A rfl rfl rfl ?_; intro _ _ _ _) | (refine vo_appendA rfl rfl rfl ?_; intro _ _ _ _)) | (refine vo_isCopy ?_; refine vo_copyB rfl rfl rfl (by assumption) (by assumption) (by assumption) (by assumption) ?_) | refine vo_yield rfl rfl rfl rfl rfl ?_ | refine vo_callV rfl rfl rfl (vc_in rfl rfl ?_)) | refine vo_convRow rfl rfl ?_ | (refine vo_isBs ?_; refine vo_buildSlice rfl rfl rfl (by decide) (by repeat' (first | exact trivial | rfl | assumption | refine ⟨?_, ?_⟩ | (simp; done) | (simp; omega))) (by decide) rfl ?_; intro _) | (refine vo_buildSlice0 rfl ?_; intro _) | fail)
    refine ⟨.inl (by kernel_rfl), ?_⟩
    refine va_one 9 (by kernel_rfl) rfl rfl ?_
    (first | (refine vo_box rfl rfl rfl ?_; intro _) | (refine vo_alloc rfl ?_; intro _) | (refine vo_isStore ?_; first | (refine vo_isPt0 rfl ?_; refine vo_stWA rfl rfl ?_) | (refine vo_isPt rfl ?_; refine vo_stBA rfl rfl ?_) | (refine vo_stO rfl rfl (by rfl) (by first | rfl | assumption) (by first | assumption | (simp; done) | (simp; omega) | omega) rfl ?_; skip)) | (refine vo_isCall ?_; first | (refine vo_isApp ?_; first | (refine vo_append0A rfl rfl rfl ?_; intro _ _ _ _) | (refine vo_appendA rfl rfl rfl ?_; intro _ _ _ _)) | (refine vo_isCopy ?_; refine vo_copyB rfl rfl rfl (by assumption) (by assumption) (by assumption) (by assumption) ?_) | refine vo_yield rfl rfl rfl rfl rfl ?_ | refine vo_callV rfl rfl rfl (vc_in rfl rfl ?_)) | refine vo_convRow rfl rfl ?_ | (refine vo_isBs ?_; refine vo_buildSlice rfl rfl rfl (by decide) (by repeat' (first | exact trivial | rfl | assumption | refine ⟨?_, ?_⟩ | (simp; done) | (simp; omega))) (by decide) rfl ?_; intro _) | (refine vo_buildSlice0 rfl ?_; intro _) | fail)
    refine ⟨.inl (by kernel_rfl), ?_⟩
    refine va_done (by kernel_rfl) ?_
    skip
    repeat' (first | (refine go1 ?_; intros) | (refine vl_caseG rfl rfl rfl rfl ?_ ?_ <;> (intro hb; (try simp only [decide_eq_true_eq, decide_eq_false_iff_not, Bool.not_eq_true', Bool.not_eq_false', ne_eq, Decidable.not_not, Option.isNone_iff_eq_none, not_true_eq_false, not_false_eq_true] at hb); try (exfalso; omega))) | (refine v_cond rfl ?_ ?_ <;> (intro hb; (try simp only [decide_eq_true_eq, decide_eq_false_iff_not, Bool.not_eq_true', Bool.not_eq_false', ne_eq, Decidable.not_not, Option.isNone_iff_eq_none, not_true_eq_false, not_false_eq_true] at hb); try (exfalso; omega))) | fail)
    rename_i g9 a2 c2 _ _
    refine ⟨_, ?_, a2, c2, ⟨aT, cT, T⟩, rfl, Ent.refl _ _⟩
    rw [hpb]
    unfold vinM
    rw [show (qs ++ [(⟨aT, cT, T⟩ : PB)]).length = qs.length + 1 by simp]
    refine SE.ent (SE.trans (@SEI.out _ (own 27 1 a2 (qs.length + 1) c2 (pbs (qs ++ [⟨aT, cT, T⟩])) :: blk go 109 [.slice a2 (qs.length + 1) c2] :: blk gp 30 cs :: ownB aT cT T :: psA qs :: L) ?_) (SE.cons _ (SE.cons _ (SE.cons _ (se_psA_snoc qs L aT cT T))))) w0
    infer_instance
  · have hT := hst.2 hb0
    rw [show bitAt p.key i = 1 by omega]
    repeat' (first | (refine go1 ?_; intros) | (refine vl_caseG rfl rfl rfl rfl ?_ ?_ <;> (intro hb; (try simp only [decide_eq_true_eq, decide_eq_false_iff_not, Bool.not_eq_true', Bool.not_eq_false', ne_eq, Decidable.not_not, Option.isNone_iff_eq_none, not_true_eq_false, not_false_eq_true] at hb); try (exfalso; omega))) | (refine v_cond rfl ?_ ?_ <;> (intro hb; (try simp only [decide_eq_true_eq, decide_eq_false_iff_not, Bool.not_eq_true', Bool.not_eq_false', ne_eq, Decidable.not_not, Option.isNone_iff_eq_none, not_true_eq_false, not_false_eq_true] at hb); try (exfalso; omega))) | fail)
    rw [← hZ]
    rename_i g4 g7
    have s1 : splice (Z ++ Z) (0 + 32) (bvs S) = Z ++ bvs S := by
      have := splice_mid Z Z [] (bvs S) 32 hZl (by omega)
      simpa using this
    have s2 : splice (Z ++ bvs S) (0 + 0) (bvs D) = bvs D ++ bvs S := by
      have := splice_mid [] Z (bvs S) (bvs D) 0 rfl (by omega)
      simpa using this
    refine v_draw0 [10, 12] (by kernel_rfl) ?_
    refine va_takeA 0 rfl rfl rfl rfl ?_
    refine va_takeP 1 rfl rfl rfl rfl (by kernel_rfl) (fun _ _ _ _ h => h) (.inl (SE.ent (by repeat' (first | exact SE.refl _ | refine SE.cons _ ?_ | refine SE.trans (se_drop _ _) ?_)) _)) (by (first | exact vq_move rfl | exact vq_assign rfl | (apply vq_isBin; first | exact vq_lt rfl rfl | exact vq_eq rfl rfl | exact vq_ne rfl rfl | (apply vq_isOp .add; exact vq_add rfl rfl (by first | exact wr_add (by omega) | exact wu_add (by omega) | exact wr_id (by omega) (by omega) | rfl)) | (apply vq_isOp .sub; exact vq_minus rfl rfl (by first | exact wr_sub (by omega) (by omega) | exact wu_sub (by omega) (by omega) | exact wr_id (by omega) (by omega) | rfl)) | exact vq_gt rfl rfl | exact vq_le rfl rfl | exact vq_ge rfl rfl | (apply vq_isOp .mul; exact vq_mul rfl rfl (by first | exact wr_mul (by omega) | exact wr_id (by omega) (by omega) | rfl)) | (apply vq_isOp .or; exact vq_or rfl rfl (by rfl)) | (apply vq_isOp .and; exact vq_and rfl rfl (by rfl)) | (apply vq_isOp .xor; exact vq_xor rfl rfl (by rfl)) | (apply vq_isOp .shl; exact vq_shl rfl rfl (by omega) (by rfl)) | (apply vq_isOp .shr; exact vq_shr rfl rfl (by omega) (by rfl)) | (apply vq_isOp .quo; exact vq_quo rfl rfl (by decide) (by first | exact q8_i64 (by omega) | exact q2_u8 (by omega) | exact q4_i64 (by omega) | assumption | rfl)) | (apply vq_isOp .rem; exact vq_rem rfl rfl (by decide) (by first | exact r8 | exact r2 | exact r4 | exact r64 | assumption | rfl)) | exact vq_eqNil rfl rfl | exact vq_eqBool rfl rfl | (apply vq_isOp .eql; exact vq_eqB rfl rfl (by first | assumption | (simp; done)) (by first | assumption | (simp; done))) | (apply vq_isOp .neq; first | exact vq_neBool rfl rfl | exact vq_neB rfl rfl (by first | assumption | (simp; done)) (by first | assumption | (simp; done)))) | (apply vq_isLoad; first | (apply vq_isPt; exact rfl; first | (apply vq_isOne; exact vq_ldB rfl (by first | rfl | assumption)) | (apply vq_isPt0; exact rfl; apply vq_isAgg; exact vq_ldW rfl (by first | rfl | assumption | (simp; done) | (simp; assumption))) | (apply vq_isAgg; exact vq_ldP rfl (by assumption) (by first | assumption | (simp; done) | (simp; assumption)))) | (apply vq_isPtA; exact rfl; first | (apply vq_isOne; exact vq_ld1 rfl (by first | assumption | rfl)) | exact vq_ldA rfl (by assumption) (by first | assumption | (simp; done) | (simp; assumption))) | fail) | exact vq_lenSl rfl | (apply vq_isIx; first | (apply vq_ixSl; exact rfl; exact vq_index rfl rfl (by omega) (by omega) (by first | assumption | (simp; done) | (simp; omega) | (rw [bvs_length]; omega)) (by first | exact ix_1 | exact ix_s _ | rfl)) | (apply vq_ixPt; exact rfl; exact vq_indexArr rfl rfl (by omega) (by omega) (by first | exact ix_1 | exact ix_s _ | rfl)) | exact vq_indexArrA rfl rfl (by first | assumption | (simp; done) | (rw [bvs_length]; omega) | (simp; omega)) (by omega) (by omega) (by first | exact ix_1 | exact ix_s _ | rfl)) | exact vq_extract rfl rfl | exact vq_pickT rfl rfl | exact vq_pickF rfl rfl | exact vq_fieldAddr rfl (by rfl) rfl | exact vq_fieldAddrO rfl (by first | assumption | (simp; done) | (simp; omega)) (by rfl) rfl | exact vq_makeFunc rfl rfl | exact vq_nilCheck rfl | (apply vq_isConv; exact vq_conv rfl (by first | exact wi_id (by omega) | exact wu_id (by omega) | exact wr_id (by omega) (by omega) | rfl)) | (apply vq_isUn; first | exact vq_not rfl | exact vq_xorU rfl (by rfl) | exact vq_neg rfl (by rfl)) | (apply vq_isSlice; first | exact vq_slice rfl (by first | exact bnd_none | exact bnd_nat rfl) (by first | exact bnd_none | exact bnd_nat rfl) (by first | exact bnd_none | exact bnd_nat rfl) rfl (by omega) (by omega) (by omega) | exact vq_sliceArr rfl rfl | exact vq_sliceArrO rfl (by first | assumption | (simp; done) | (simp; omega)) rfl) | (apply vq_isBuild; first | exact vq_build0 | exact vq_buildArr0 | exact vq_build rfl rfl (by first | rfl | (simp [plOf]; done)) (by first | rfl | (simp; done)) | exact vq_buildP rfl (by first | (simp [okS, Value.cells]; done) | (simp [okS, Value.cells]; omega)) rfl) | fail)) ?_
    refine va_takeP 2 (v := .int .u8 ((0 : Nat) : Int)) rfl rfl rfl rfl (by kernel_rfl) (fun _ _ _ _ h => h) (.inl (SE.ent (by repeat' (first | exact SE.refl _ | refine SE.cons _ ?_ | refine SE.trans (se_drop _ _) ?_)) _)) (by (first | exact vq_move rfl | exact vq_assign rfl | (apply vq_isBin; first | exact vq_lt rfl rfl | exact vq_eq rfl rfl | exact vq_ne rfl rfl | (apply vq_isOp .add; exact vq_add rfl rfl (by first | exact wr_add (by omega) | exact wu_add (by omega) | exact wr_id (by omega) (by omega) | rfl)) | (apply vq_isOp .sub; exact vq_minus rfl rfl (by first | exact wr_sub (by omega) (by omega) | exact wu_sub (by omega) (by omega) | exact wr_id (by omega) (by omega) | rfl)) | exact vq_gt rfl rfl | exact vq_le rfl rfl | exact vq_ge rfl rfl | (apply vq_isOp .mul; exact vq_mul rfl rfl (by first | exact wr_mul (by omega) | exact wr_id (by omega) (by omega) | rfl)) | (apply vq_isOp .or; exact vq_or rfl rfl (by rfl)) | (apply vq_isOp .and; exact vq_and rfl rfl (by rfl)) | (apply vq_isOp .xor; exact vq_xor rfl rfl (by rfl)) | (apply vq_isOp .shl; exact vq_shl rfl rfl (by omega) (by rfl)) | (apply vq_isOp .shr; exact vq_shr rfl rfl (by omega) (by rfl)) | (apply vq_isOp .quo; exact vq_quo rfl rfl (by decide) (by first | exact q8_i64 (by omega) | exact q2_u8 (by omega) | exact q4_i64 (by omega) | assumption | rfl)) | (apply vq_isOp .rem; exact vq_rem rfl rfl (by decide) (by first | exact r8 | exact r2 | exact r4 | exact r64 | assumption | rfl)) | exact vq_eqNil rfl rfl | exact vq_eqBool rfl rfl | (apply vq_isOp .eql; exact vq_eqB rfl rfl (by first | assumption | (simp; done)) (by first | assumption | (simp; done))) | (apply vq_isOp .neq; first | exact vq_neBool rfl rfl | exact vq_neB rfl rfl (by first | assumption | (simp; done)) (by first | assumption | (simp; done)))) | (apply vq_isLoad; first | (apply vq_isPt; exact rfl; first | (apply vq_isOne; exact vq_ldB rfl (by first | rfl | assumption)) | (apply vq_isPt0; exact rfl; apply vq_isAgg; exact vq_ldW rfl (by first | rfl | assumption | (simp; done) | (simp; assumption))) | (apply vq_isAgg; exact vq_ldP rfl (by assumption) (by first | assumption | (simp; done) | (simp; assumption)))) | (apply vq_isPtA; exact rfl; first | (apply vq_isOne; exact vq_ld1 rfl (by first | assumption | rfl)) | exact vq_ldA rfl (by assumption) (by first | assumption | (simp; done) | (simp; assumption))) | fail) | exact vq_lenSl rfl | (apply vq_isIx; first | (apply vq_ixSl; exact rfl; exact vq_index rfl rfl (by omega) (by omega) (by first | assumption | (simp; done) | (simp; omega) | (rw [bvs_length]; omega)) (by first | exact ix_1 | exact ix_s _ | rfl)) | (apply vq_ixPt; exact rfl; exact vq_indexArr rfl rfl (by omega) (by omega) (by first | exact ix_1 | exact ix_s _ | rfl)) | exact vq_indexArrA rfl rfl (by first | assumption | (simp; done) | (rw [bvs_length]; omega) | (simp; omega)) (by omega) (by omega) (by first | exact ix_1 | exact ix_s _ | rfl)) | exact vq_extract rfl rfl | exact vq_pickT rfl rfl | exact vq_pickF rfl rfl | exact vq_fieldAddr rfl (by rfl) rfl | exact vq_fieldAddrO rfl (by first | assumption | (simp; done) | (simp; omega)) (by rfl) rfl | exact vq_makeFunc rfl rfl | exact vq_nilCheck rfl | (apply vq_isConv; exact vq_conv rfl (by first | exact wi_id (by omega) | exact wu_id (by omega) | exact wr_id (by omega) (by omega) | rfl)) | (apply vq_isUn; first | exact vq_not rfl | exact vq_xorU rfl (by rfl) | exact vq_neg rfl (by rfl)) | (apply vq_isSlice; first | exact vq_slice rfl (by first | exact bnd_none | exact bnd_nat rfl) (by first | exact bnd_none | exact bnd_nat rfl) (by first | exact bnd_none | exact bnd_nat rfl) rfl (by omega) (by omega) (by omega) | exact vq_sliceArr rfl rfl | exact vq_sliceArrO rfl (by first | assumption | (simp; done) | (simp; omega)) rfl) | (apply vq_isBuild; first | exact vq_build0 | exact vq_buildArr0 | exact vq_build rfl rfl (by first | rfl | (simp [plOf]; done)) (by first | rfl | (simp; done)) | exact vq_buildP rfl (by first | (simp [okS, Value.cells]; done) | (simp [okS, Value.cells]; omega)) rfl) | fail)) ?_
    refine va_takeA 3 rfl rfl rfl rfl ?_
    refine va_takeA 4 rfl rfl rfl rfl ?_
    refine va_takeA 5 rfl rfl rfl rfl ?_
    refine va_takeA 6 rfl rfl rfl rfl ?_
    refine va_takeA 7 rfl rfl rfl rfl ?_
    refine va_takeA 8 rfl rfl rfl rfl ?_
    refine va_takeA 9 rfl rfl rfl rfl ?_
    refine va_one 10 (by kernel_rfl) rfl rfl ?_
    refine vo_stB (off := 0 + 32) (vs := bvs S) (cs' := Z ++ bvs S) rfl rfl rfl (by simp [hS]) (by simp only [List.length_append]; omega) s1 ?_
    refine ⟨.inl (by kernel_rfl), ?_⟩
    refine va_takePA 11 rfl rfl rfl rfl ?_
    refine va_one 12 (by kernel_rfl) rfl rfl ?_
    refine vo_stB (off := 0 + 0) (vs := bvs D) (cs' := bvs D ++ bvs S) rfl rfl rfl (by simp [hsl]) (by simp only [List.length_append]; omega) s2 ?_
    refine ⟨.inl (by kernel_rfl), ?_⟩
    refine va_done (by kernel_rfl) ?_
    skip
    generalize S = B at *
    generalize D = A at *
    have hA32 : A.length = 32 := by assumption
    have hB32 : B.length = 32 := by assumption
    have p1 : ((bvs A ++ bvs B).drop (0 + 0)).take 32 = bvs A := by simp [List.take_append, hA32, List.take_of_length_le]
    have p2 : ((bvs A ++ bvs B).drop (0 + 32)).take 32 = bvs B := by simp [List.drop_append, hA32, hB32, List.take_of_length_le, List.drop_of_length_le]
    have hB1 := fork_bytes A B hA32 hB32
    have hTl : T.length ≤ 1000000000 := by rw [hT]; exact hB1
    repeat' (first | (refine go1 ?_; intros) | (refine vl_caseG rfl rfl rfl rfl ?_ ?_ <;> (intro hb; (try simp only [decide_eq_true_eq, decide_eq_false_iff_not, Bool.not_eq_true', Bool.not_eq_false', ne_eq, Decidable.not_not, Option.isNone_iff_eq_none, not_true_eq_false, not_false_eq_true] at hb); try (exfalso; omega))) | (refine v_cond rfl ?_ ?_ <;> (intro hb; (try simp only [decide_eq_true_eq, decide_eq_false_iff_not, Bool.not_eq_true', Bool.not_eq_false', ne_eq, Decidable.not_not, Option.isNone_iff_eq_none, not_true_eq_false, not_false_eq_true] at hb); try (exfalso; omega))) | fail)
    refine v_draw0 [8, 9] (by kernel_rfl) ?_
    refine va_takeA 0 rfl rfl rfl rfl ?_
    refine va_takeA 1 rfl rfl rfl rfl ?_
    refine va_takeA 2 rfl rfl rfl rfl ?_
    refine va_takeA 3 rfl rfl rfl rfl ?_
    refine va_takeA 4 rfl rfl rfl rfl ?_
    refine va_one 5 (by kernel_rfl) rfl rfl ?_
    (first | (refine vo_box rfl rfl rfl ?_; intro _) | (refine vo_alloc rfl ?_; intro _) | (refine vo_isStore ?_; first | (refine vo_isPt0 rfl ?_; refine vo_stWA rfl rfl ?_) | (refine vo_isPt rfl ?_; refine vo_stBA rfl rfl ?_) | (refine vo_stO rfl rfl (by rfl) (by first | rfl | assumption) (by first | assumption | (simp; done) | (simp; omega) | omega) rfl ?_; skip)) | (refine vo_isCall ?_; first | (refine vo_isApp ?_; first | (refine vo_append0A rfl rfl rfl ?_; intro _ _ _ _) | (refine vo_appendA rfl rfl rfl ?_; intro _ _ _ _)) | (refine vo_isCopy ?_; refine vo_copyB rfl rfl rfl (by assumption) (by assumption) (by assumption) (by assumption) ?_) | refine vo_yield rfl rfl rfl rfl rfl ?_ | refine vo_callV rfl rfl rfl (vc_in rfl rfl ?_)) | refine vo_convRow rfl rfl ?_ | (refine vo_isBs ?_; refine vo_buildSlice rfl rfl rfl (by decide) (by repeat' (first | exact trivial | rfl | assumption | refine ⟨?_, ?_⟩ | (simp; done) | (simp; omega))) (by decide) rfl ?_; intro _) | (refine vo_buildSlice0 rfl ?_; intro _) | fail)
    refine ⟨.inr (sei _ _ _), ?_⟩
    refine va_one 6 (by kernel_rfl) rfl rfl ?_
    first | refine vo_call rfl rfl ?_ | refine vo_callV rfl rfl rfl ?_
    rename_i g2
    refine vc_mono (tb2_vc w0 _ 2 (by decide) g2 (some ⟨g7, 0 + 0, none⟩) 32 A (some ⟨g7, 0 + 32, none⟩) 32 B hA32.symm hB32.symm hB1 (h1 := rdC_part (0 + 0) 32 p1) (h2 := rdC_part (0 + 32) 32 p2)) ?_
    rintro v L' ⟨aT, cT, rfl, hcT, rfl⟩
    rw [← hT]
    refine ⟨.inr (sei _ _ _), ?_⟩
    refine va_one 7 (by kernel_rfl) rfl rfl ?_
    (first | (refine vo_box rfl rfl rfl ?_; intro _) | (refine vo_alloc rfl ?_; intro _) | (refine vo_isStore ?_; first | (refine vo_isPt0 rfl ?_; refine vo_stWA rfl rfl ?_) | (refine vo_isPt rfl ?_; refine vo_stBA rfl rfl ?_) | (refine vo_stO rfl rfl (by rfl) (by first | rfl | assumption) (by first | assumption | (simp; done) | (simp; omega) | omega) rfl ?_; skip)) | (refine vo_isCall ?_; first | (refine vo_isApp ?_; first | (refine vo_append0A rfl rfl rfl ?_; intro _ _ _ _) | (refine vo_appendA rfl rfl rfl ?_; intro _ _ _ _)) | (refine vo_isCopy ?_; refine vo_copyB rfl rfl rfl (by assumption) (by assumption) (by assumption) (by assumption) ?_) | refine vo_yield rfl rfl rfl rfl rfl ?_ | refine vo_callV rfl rfl rfl (vc_in rfl rfl ?_)) | refine vo_convRow rfl rfl ?_ | (refine vo_isBs ?_; refine vo_buildSlice rfl rfl rfl (by decide) (by repeat' (first | exact trivial | rfl | assumption | refine ⟨?_, ?_⟩ | (simp; done) | (simp; omega))) (by decide) rfl ?_; intro _) | (refine vo_buildSlice0 rfl ?_; intro _) | fail)
    refine ⟨.inr (sei _ _ _), ?_⟩
    refine va_one 8 (by kernel_rfl) rfl rfl ?_
    (first | (refine vo_box rfl rfl rfl ?_; intro _) | (refine vo_alloc rfl ?_; intro _) | (refine vo_isStore ?_; first | (refine vo_isPt0 rfl ?_; refine vo_stWA rfl rfl ?_) | (refine vo_isPt rfl ?_; refine vo_stBA rfl rfl ?_) | (refine vo_stO rfl rfl (by rfl) (by first | rfl | assumption) (by first | assumption | (simp; done) | (simp; omega) | omega) rfl ?_; skip)) | (refine vo_isCall ?_; first | (refine vo_isApp ?_; first | (refine vo_append0A rfl rfl rfl ?_; intro _ _ _ _) | (refine vo_appendA rfl rfl rfl ?_; intro _ _ _ _)) | (refine vo_isCopy ?_; refine vo_copyB rfl rfl rfl (by assumption) (by assumption) (by assumption) (by assumption) ?_) | refine vo_yield rfl rfl rfl rfl rfl ?_ | refine vo_callV rfl rfl rfl (vc_in rfl rfl ?_)) | refine vo_convRow rfl rfl ?_ | (refine vo_isBs ?_; refine vo_buildSlice rfl rfl rfl (by decide) (by repeat' (first | exact trivial | rfl | assumption | refine ⟨?_, ?_⟩ | (simp; done) | (simp; omega))) (by decide) rfl ?_; intro _) | (refine vo_buildSlice0 rfl ?_; intro _) | fail)
    refine ⟨.inl (by kernel_rfl), ?_⟩
    refine va_one 9 (by kernel_rfl) rfl rfl ?_
    (first | (refine vo_box rfl rfl rfl ?_; intro _) | (refine vo_alloc rfl ?_; intro _) | (refine vo_isStore ?_; first | (refine vo_isPt0 rfl ?_; refine vo_stWA rfl rfl ?_) | (refine vo_isPt rfl ?_; refine vo_stBA rfl rfl ?_) | (refine vo_stO rfl rfl (by rfl) (by first | rfl | assumption) (by first | assumption | (simp; done) | (simp; omega) | omega) rfl ?_; skip)) | (refine vo_isCall ?_; first | (refine vo_isApp ?_; first | (refine vo_append0A rfl rfl rfl ?_; intro _ _ _ _) | (refine vo_appendA rfl rfl rfl ?_; intro _ _ _ _)) | (refine vo_isCopy ?_; refine vo_copyB rfl rfl rfl (by assumption) (by assumption) (by assumption) (by assumption) ?_) | refine vo_yield rfl rfl rfl rfl rfl ?_ | refine vo_callV rfl rfl rfl (vc_in rfl rfl ?_)) | refine vo_convRow rfl rfl ?_ | (refine vo_isBs ?_; refine vo_buildSlice rfl rfl rfl (by decide) (by repeat' (first | exact trivial | rfl | assumption | refine ⟨?_, ?_⟩ | (simp; done) | (simp; omega))) (by decide) rfl ?_; intro _) | (refine vo_buildSlice0 rfl ?_; intro _) | fail)
    refine ⟨.inl (by kernel_rfl), ?_⟩
    refine va_done (by kernel_rfl) ?_
    skip
    repeat' (first | (refine go1 ?_; intros) | (refine vl_caseG rfl rfl rfl rfl ?_ ?_ <;> (intro hb; (try simp only [decide_eq_true_eq, decide_eq_false_iff_not, Bool.not_eq_true', Bool.not_eq_false', ne_eq, Decidable.not_not, Option.isNone_iff_eq_none, not_true_eq_false, not_false_eq_true] at hb); try (exfalso; omega))) | (refine v_cond rfl ?_ ?_ <;> (intro hb; (try simp only [decide_eq_true_eq, decide_eq_false_iff_not, Bool.not_eq_true', Bool.not_eq_false', ne_eq, Decidable.not_not, Option.isNone_iff_eq_none, not_true_eq_false, not_false_eq_true] at hb); try (exfalso; omega))) | fail)
    rename_i g9 a2 c2 _ _
    refine ⟨_, ?_, a2, c2, ⟨aT, cT, T⟩, rfl, Ent.refl _ _⟩
    rw [hpb]
    unfold vinM
    rw [show (qs ++ [(⟨aT, cT, T⟩ : PB)]).length = qs.length + 1 by simp]
    refine SE.ent (SE.trans (@SEI.out _ (own 27 1 a2 (qs.length + 1) c2 (pbs (qs ++ [⟨aT, cT, T⟩])) :: blk go 109 [.slice a2 (qs.length + 1) c2] :: blk gp 30 cs :: ownB aT cT T :: psA qs :: L) ?_) (SE.cons _ (SE.cons _ (SE.cons _ (se_psA_snoc qs L aT cT T))))) w0
    infer_instance
end Go.Proofs.YtnoihibaoalkaaaDoor
namespace Go.Proofs.YtnoihibaoalkaaaDoor
open Go Go.RowKit
set_option linter.unusedVariables false
set_option linter.unusedSimpArgs false
open Classical

section
variable {P : Program} {ro : Option Nat} {w0 : World} {n : Nat} {ds : List Deferred} {fr : Fr} {L : List Asn}
variable {t e : TypeId} {dst : Option Nat} {ty : TypeId} {pos : String} {after : Array Edge} {gd : Option (Nat × Bool)} {agg : Bool} {size bytes : Nat} {z : List Value}
theorem vq_indexN {x i : Operand} {a0 : Option Addr} {b off m c kk : Nat} {q : IntKind} {I : Int} (ha : a0 = some ⟨b, off, none⟩) (hx : evA fr x = some (.slice a0 m c)) (hi : evA fr i = some (.int q I)) [hu : SlI P t e agg size bytes z] (h0 : 0 ≤ I) (h1 : I < m) (hk : I.toNat * size = kk) :
    VQ P w0 n ⟨dst, .indexAddr t x i, ty, pos, after, gd⟩ (.pointer (offA a0 kk)) ds fr L :=
  vq_val (fun a w hkn hs => by
    subst ha
    subst hk
    rw [offA_some]
    exact run_indexSl t x i rfl hu (hkn.ev hx) I.toNat (hkn.ev hi) (by omega) (by omega))
end
theorem splice_pbs (ws : List PB) (k : Nat) (hk : k < ws.length) (q : PB) : splice (pbs ws) k [.slice q.a q.l.length q.cap] = pbs (ws.set k q) := by
  have h1 : pbs ws = pbs (ws.take k) ++ ([PB.v ws[k]] ++ pbs (ws.drop (k + 1))) := by
    rw [show [PB.v ws[k]] ++ pbs (ws.drop (k + 1)) = pbs (ws.drop k) by rw [List.drop_eq_getElem_cons hk]; rfl]
    simp only [pbs, ← List.map_append, List.take_append_drop]
  rw [h1, splice_mid _ _ _ _ k (by simp; omega) (by rfl), List.set_eq_take_append_cons_drop, if_pos hk]
  simp [pbs, PB.v]
theorem rev_step {α : Type} {qs ws : List α} {n k : Nat} (hn : qs.length = n) (hwl : ws.length = n) (hk : k < n - 1 - k) (h : ∀ m, m < n → ws[m]? = if m < k ∨ n - 1 - k < m then qs[n - 1 - m]? else qs[m]?) {x y : α} (hx : ws[k]? = some x) (hy : ws[n - 1 - k]? = some y) :
    ∀ m, m < n → ((ws.set k y).set (n - 1 - k) x)[m]? = if m < k + 1 ∨ n - 1 - (k + 1) < m then qs[n - 1 - m]? else qs[m]? := by
  intro m hm
  rw [List.getElem?_set, List.getElem?_set, List.length_set]
  have hkx := h k (by omega)
  rw [if_neg (by omega)] at hkx
  have hjx := h (n - 1 - k) (by omega)
  rw [if_neg (by omega)] at hjx
  by_cases e1 : n - 1 - k = m
  · rw [if_pos e1, if_pos (by omega), if_pos (by omega), ← hx, hkx, show n - 1 - m = k by omega]
  · rw [if_neg e1]
    by_cases e2 : k = m
    · rw [if_pos e2, if_pos (by omega), if_pos (by omega), ← hy, hjx, e2]
    · rw [if_neg e2, h m hm]
      by_cases e3 : m < k ∨ n - 1 - k < m
      · rw [if_pos e3, if_pos (by omega)]
      · rw [if_neg e3, if_neg (by omega)]
theorem rev_done {α : Type} {qs ws : List α} {n k : Nat} (hn : qs.length = n) (hwl : ws.length = n) (hk : ¬ k < n - 1 - k) (h : ∀ m, m < n → ws[m]? = if m < k ∨ n - 1 - k < m then qs[n - 1 - m]? else qs[m]?) : ws = qs.reverse := by
  apply List.ext_getElem?
  intro m
  rcases Nat.lt_or_ge m n with e | e
  · rw [h m e, List.getElem?_reverse (by omega), hn]
    by_cases e3 : m < k ∨ n - 1 - k < m
    · rw [if_pos e3]
    · rw [if_neg e3, show n - 1 - m = m by omega]
  · rw [List.getElem?_eq_none (by omega), List.getElem?_eq_none (by simp; omega)]
set_option maxRecDepth 100000 in
set_option maxHeartbeats 2000000 in
theorem vrev_vc (w0 : World) (L : List Asn) (a : Option Addr) (c : Nat) (qs : List PB) {n : Nat} (hn : n = qs.length) (h0 : 0 < n) (hl : n ≤ 1000000) :
    VC Tryd.prog w0 106 [.slice a n c] (own 27 1 a n c (pbs qs) :: L) fun v L' => L' = own 27 1 a n c (pbs qs.reverse) :: L := by
  refine vc_know (φ := ∃ b off, a = some ⟨b, off, none⟩) (fun w hs => ?_) ?_
  · obtain ⟨b, off, e, _⟩ := (hs.rcOwn 0 rfl).read (by intro e; have := pbs_length qs; rw [e] at this; simp only [List.length_nil] at this; omega)
    exact ⟨b, off, e⟩
  rintro ⟨b, off, ha⟩
  refine vc_ent ?_
  refine vc_in rfl rfl ?_
  repeat' (first | (refine go1 ?_; intros) | (refine vl_caseG rfl rfl rfl rfl ?_ ?_ <;> (intro hb; (try simp only [decide_eq_true_eq, decide_eq_false_iff_not, Bool.not_eq_true', Bool.not_eq_false', ne_eq, Decidable.not_not, Option.isNone_iff_eq_none, not_true_eq_false, not_false_eq_true] at hb); try (exfalso; omega))) | (refine v_cond rfl ?_ ?_ <;> (intro hb; (try simp only [decide_eq_true_eq, decide_eq_false_iff_not, Bool.not_eq_true', Bool.not_eq_false', ne_eq, Decidable.not_not, Option.isNone_iff_eq_none, not_true_eq_false, not_false_eq_true] at hb); try (exfalso; omega))) | fail)
  refine v_loopF (Nat × List PB) [0] rfl (fun x => [(2, .int .i64 x.1), (3, .int .i64 ((n - 1 - x.1 : Nat) : Int))]) (fun _ x => own 27 1 a n c (pbs x.2) :: L) (fun x => 2 * x.1 ≤ n ∧ x.1 ≤ n - 1 ∧ x.2.length = n ∧ ∀ m, m < n → x.2[m]? = if m < x.1 ∨ n - 1 - x.1 < m then qs[n - 1 - m]? else qs[m]?) (fun x => n - x.1) (0, qs) ⟨by omega, by omega, hn.symm, fun m hm => by dsimp only; rw [if_neg (by omega)]⟩ (by (repeat' (first | exact Sub.nil _ | refine Sub.cons rfl rfl ?_ | refine Sub.cons rfl ?_ ?_))) (Ent.refl _ _) ?_
  rintro ⟨k, ws⟩ ⟨h1, h2, hwl, hws⟩
  dsimp only at h1 h2 hwl hws ⊢
  by_cases hlt : k < n - 1 - k
  · have hgk := pbs_get ws k (by omega)
    have hgj := pbs_get ws (n - 1 - k) (by omega)
    have hx : ws[k]? = some (ws[k]'(by omega)) := List.getElem?_eq_getElem (by omega)
    have hy : ws[n - 1 - k]? = some (ws[n - 1 - k]'(by omega)) := List.getElem?_eq_getElem (by omega)
    generalize ws[k]'(by omega) = x at *
    generalize ws[n - 1 - k]'(by omega) = y at *
    have hst := rev_step hn.symm hwl hlt hws hx hy
    have s1 := splice_pbs ws k (by omega) y
    have s2 := splice_pbs (ws.set k y) (n - 1 - k) (by simp; omega) x
    have hpos : 0 < (pbs ws).length := by simp; omega
    have hpos2 : 0 < (pbs (ws.set k y)).length := by simp; omega
    repeat' (first | (refine go1 ?_; intros) | (refine vl_caseG rfl rfl rfl rfl ?_ ?_ <;> (intro hb; (try simp only [decide_eq_true_eq, decide_eq_false_iff_not, Bool.not_eq_true', Bool.not_eq_false', ne_eq, Decidable.not_not, Option.isNone_iff_eq_none, not_true_eq_false, not_false_eq_true] at hb); try (exfalso; omega))) | (refine v_cond rfl ?_ ?_ <;> (intro hb; (try simp only [decide_eq_true_eq, decide_eq_false_iff_not, Bool.not_eq_true', Bool.not_eq_false', ne_eq, Decidable.not_not, Option.isNone_iff_eq_none, not_true_eq_false, not_false_eq_true] at hb); try (exfalso; omega))) | fail)
    refine v_draw0 [13, 15] (by kernel_rfl) ?_
    refine va_takeA 0 rfl rfl rfl rfl ?_
    refine va_takeA 1 rfl rfl rfl rfl ?_
    refine va_takeP 2 rfl rfl rfl rfl (by kernel_rfl) (fun _ _ _ _ h => h) (.inl (SE.ent (by repeat' (first | exact SE.refl _ | refine SE.cons _ ?_ | refine SE.trans (se_drop _ _) ?_)) _)) (by (first | exact vq_move rfl | exact vq_assign rfl | (apply vq_isBin; first | exact vq_lt rfl rfl | exact vq_eq rfl rfl | exact vq_ne rfl rfl | (apply vq_isOp .add; exact vq_add rfl rfl (by first | exact wr_add (by omega) | exact wu_add (by omega) | exact wr_id (by omega) (by omega) | rfl)) | (apply vq_isOp .sub; exact vq_minus rfl rfl (by first | exact wr_sub (by omega) (by omega) | exact wu_sub (by omega) (by omega) | exact wr_id (by omega) (by omega) | rfl)) | exact vq_gt rfl rfl | exact vq_le rfl rfl | exact vq_ge rfl rfl | (apply vq_isOp .mul; exact vq_mul rfl rfl (by first | exact wr_mul (by omega) | exact wr_id (by omega) (by omega) | rfl)) | (apply vq_isOp .or; exact vq_or rfl rfl (by rfl)) | (apply vq_isOp .and; exact vq_and rfl rfl (by rfl)) | (apply vq_isOp .xor; exact vq_xor rfl rfl (by rfl)) | (apply vq_isOp .shl; exact vq_shl rfl rfl (by omega) (by rfl)) | (apply vq_isOp .shr; exact vq_shr rfl rfl (by omega) (by rfl)) | (apply vq_isOp .quo; exact vq_quo rfl rfl (by decide) (by first | exact q8_i64 (by omega) | exact q2_u8 (by omega) | exact q4_i64 (by omega) | assumption | rfl)) | (apply vq_isOp .rem; exact vq_rem rfl rfl (by decide) (by first | exact r8 | exact r2 | exact r4 | exact r64 | assumption | rfl)) | exact vq_eqNil rfl rfl | exact vq_eqBool rfl rfl | (apply vq_isOp .eql; exact vq_eqB rfl rfl (by first | assumption | (simp; done)) (by first | assumption | (simp; done))) | (apply vq_isOp .neq; first | exact vq_neBool rfl rfl | exact vq_neB rfl rfl (by first | assumption | (simp; done)) (by first | assumption | (simp; done)))) | (apply vq_isLoad; first | (apply vq_isPt; exact rfl; first | (apply vq_isOne; exact vq_ldB rfl (by first | rfl | assumption)) | (apply vq_isPt0; exact rfl; apply vq_isAgg; exact vq_ldW rfl (by first | rfl | assumption | (simp; done) | (simp; assumption))) | (apply vq_isAgg; exact vq_ldP rfl (by assumption) (by first | assumption | (simp; done) | (simp; assumption)))) | (apply vq_isPtA; exact rfl; first | (apply vq_isOne; exact vq_ld1 rfl (by first | assumption | rfl)) | exact vq_ldA rfl (by assumption) (by first | assumption | (simp; done) | (simp; assumption))) | fail) | exact vq_lenSl rfl | (apply vq_isIx; first | (apply vq_ixSl; exact rfl; exact vq_index rfl rfl (by omega) (by omega) (by first | assumption | (simp; done) | (simp; omega) | (rw [bvs_length]; omega)) (by first | exact ix_1 | exact ix_s _ | rfl)) | (apply vq_ixPt; exact rfl; exact vq_indexArr rfl rfl (by omega) (by omega) (by first | exact ix_1 | exact ix_s _ | rfl)) | exact vq_indexArrA rfl rfl (by first | assumption | (simp; done) | (rw [bvs_length]; omega) | (simp; omega)) (by omega) (by omega) (by first | exact ix_1 | exact ix_s _ | rfl)) | exact vq_extract rfl rfl | exact vq_pickT rfl rfl | exact vq_pickF rfl rfl | exact vq_fieldAddr rfl (by rfl) rfl | exact vq_fieldAddrO rfl (by first | assumption | (simp; done) | (simp; omega)) (by rfl) rfl | exact vq_makeFunc rfl rfl | exact vq_nilCheck rfl | (apply vq_isConv; exact vq_conv rfl (by first | exact wi_id (by omega) | exact wu_id (by omega) | exact wr_id (by omega) (by omega) | rfl)) | (apply vq_isUn; first | exact vq_not rfl | exact vq_xorU rfl (by rfl) | exact vq_neg rfl (by rfl)) | (apply vq_isSlice; first | exact vq_slice rfl (by first | exact bnd_none | exact bnd_nat rfl) (by first | exact bnd_none | exact bnd_nat rfl) (by first | exact bnd_none | exact bnd_nat rfl) rfl (by omega) (by omega) (by omega) | exact vq_sliceArr rfl rfl | exact vq_sliceArrO rfl (by first | assumption | (simp; done) | (simp; omega)) rfl) | (apply vq_isBuild; first | exact vq_build0 | exact vq_buildArr0 | exact vq_build rfl rfl (by first | rfl | (simp [plOf]; done)) (by first | rfl | (simp; done)) | exact vq_buildP rfl (by first | (simp [okS, Value.cells]; done) | (simp [okS, Value.cells]; omega)) rfl) | fail)) ?_
    refine va_takeP 3 rfl rfl rfl rfl (by kernel_rfl) (fun _ _ _ _ h => h) (.inl (SE.ent (by repeat' (first | exact SE.refl _ | refine SE.cons _ ?_ | refine SE.trans (se_drop _ _) ?_)) _)) (by (first | exact vq_move rfl | exact vq_assign rfl | (apply vq_isBin; first | exact vq_lt rfl rfl | exact vq_eq rfl rfl | exact vq_ne rfl rfl | (apply vq_isOp .add; exact vq_add rfl rfl (by first | exact wr_add (by omega) | exact wu_add (by omega) | exact wr_id (by omega) (by omega) | rfl)) | (apply vq_isOp .sub; exact vq_minus rfl rfl (by first | exact wr_sub (by omega) (by omega) | exact wu_sub (by omega) (by omega) | exact wr_id (by omega) (by omega) | rfl)) | exact vq_gt rfl rfl | exact vq_le rfl rfl | exact vq_ge rfl rfl | (apply vq_isOp .mul; exact vq_mul rfl rfl (by first | exact wr_mul (by omega) | exact wr_id (by omega) (by omega) | rfl)) | (apply vq_isOp .or; exact vq_or rfl rfl (by rfl)) | (apply vq_isOp .and; exact vq_and rfl rfl (by rfl)) | (apply vq_isOp .xor; exact vq_xor rfl rfl (by rfl)) | (apply vq_isOp .shl; exact vq_shl rfl rfl (by omega) (by rfl)) | (apply vq_isOp .shr; exact vq_shr rfl rfl (by omega) (by rfl)) | (apply vq_isOp .quo; exact vq_quo rfl rfl (by decide) (by first | exact q8_i64 (by omega) | exact q2_u8 (by omega) | exact q4_i64 (by omega) | assumption | rfl)) | (apply vq_isOp .rem; exact vq_rem rfl rfl (by decide) (by first | exact r8 | exact r2 | exact r4 | exact r64 | assumption | rfl)) | exact vq_eqNil rfl rfl | exact vq_eqBool rfl rfl | (apply vq_isOp .eql; exact vq_eqB rfl rfl (by first | assumption | (simp; done)) (by first | assumption | (simp; done))) | (apply vq_isOp .neq; first | exact vq_neBool rfl rfl | exact vq_neB rfl rfl (by first | assumption | (simp; done)) (by first | assumption | (simp; done)))) | (apply vq_isLoad; first | (apply vq_isPt; exact rfl; first | (apply vq_isOne; exact vq_ldB rfl (by first | rfl | assumption)) | (apply vq_isPt0; exact rfl; apply vq_isAgg; exact vq_ldW rfl (by first | rfl | assumption | (simp; done) | (simp; assumption))) | (apply vq_isAgg; exact vq_ldP rfl (by assumption) (by first | assumption | (simp; done) | (simp; assumption)))) | (apply vq_isPtA; exact rfl; first | (apply vq_isOne; exact vq_ld1 rfl (by first | assumption | rfl)) | exact vq_ldA rfl (by assumption) (by first | assumption | (simp; done) | (simp; assumption))) | fail) | exact vq_lenSl rfl | (apply vq_isIx; first | (apply vq_ixSl; exact rfl; exact vq_index rfl rfl (by omega) (by omega) (by first | assumption | (simp; done) | (simp; omega) | (rw [bvs_length]; omega)) (by first | exact ix_1 | exact ix_s _ | rfl)) | (apply vq_ixPt; exact rfl; exact vq_indexArr rfl rfl (by omega) (by omega) (by first | exact ix_1 | exact ix_s _ | rfl)) | exact vq_indexArrA rfl rfl (by first | assumption | (simp; done) | (rw [bvs_length]; omega) | (simp; omega)) (by omega) (by omega) (by first | exact ix_1 | exact ix_s _ | rfl)) | exact vq_extract rfl rfl | exact vq_pickT rfl rfl | exact vq_pickF rfl rfl | exact vq_fieldAddr rfl (by rfl) rfl | exact vq_fieldAddrO rfl (by first | assumption | (simp; done) | (simp; omega)) (by rfl) rfl | exact vq_makeFunc rfl rfl | exact vq_nilCheck rfl | (apply vq_isConv; exact vq_conv rfl (by first | exact wi_id (by omega) | exact wu_id (by omega) | exact wr_id (by omega) (by omega) | rfl)) | (apply vq_isUn; first | exact vq_not rfl | exact vq_xorU rfl (by rfl) | exact vq_neg rfl (by rfl)) | (apply vq_isSlice; first | exact vq_slice rfl (by first | exact bnd_none | exact bnd_nat rfl) (by first | exact bnd_none | exact bnd_nat rfl) (by first | exact bnd_none | exact bnd_nat rfl) rfl (by omega) (by omega) (by omega) | exact vq_sliceArr rfl rfl | exact vq_sliceArrO rfl (by first | assumption | (simp; done) | (simp; omega)) rfl) | (apply vq_isBuild; first | exact vq_build0 | exact vq_buildArr0 | exact vq_build rfl rfl (by first | rfl | (simp [plOf]; done)) (by first | rfl | (simp; done)) | exact vq_buildP rfl (by first | (simp [okS, Value.cells]; done) | (simp [okS, Value.cells]; omega)) rfl) | fail)) ?_
    refine va_takeA 4 rfl rfl rfl rfl ?_
    refine va_takeA 5 rfl rfl rfl rfl ?_
    refine va_takeA 6 rfl rfl rfl rfl ?_
    refine va_takeA 7 rfl rfl rfl rfl ?_
    refine va_takeA 8 rfl rfl rfl rfl ?_
    refine va_takeA 9 rfl rfl rfl rfl ?_
    refine va_takeA 10 rfl rfl rfl rfl ?_
    refine va_takeA 11 rfl rfl rfl rfl ?_
    refine va_takeA 12 rfl rfl rfl rfl ?_
    refine va_one 13 (by kernel_rfl) rfl rfl ?_
    refine vo_stO (vs := [.slice y.a y.l.length y.cap]) (xs' := pbs (ws.set k y)) rfl rfl rfl rfl (by simp; omega) s1 ?_
    refine ⟨.inl (by kernel_rfl), ?_⟩
    refine va_takeP 14 rfl rfl rfl rfl (by kernel_rfl) (fun _ _ _ _ h => h) (.inr (by kernel_rfl)) (vq_indexN (kk := n - 1 - k) ha rfl rfl (by omega) (by omega) (by simp)) ?_
    refine va_one 15 (by kernel_rfl) rfl rfl ?_
    refine vo_stO (vs := [.slice x.a x.l.length x.cap]) (xs' := pbs ((ws.set k y).set (n - 1 - k) x)) rfl rfl rfl rfl (by simp; omega) s2 ?_
    refine ⟨.inl (by kernel_rfl), ?_⟩
    refine va_done (by kernel_rfl) ?_
    skip
    repeat' (first | (refine go1 ?_; intros) | (refine vl_caseG rfl rfl rfl rfl ?_ ?_ <;> (intro hb; (try simp only [decide_eq_true_eq, decide_eq_false_iff_not, Bool.not_eq_true', Bool.not_eq_false', ne_eq, Decidable.not_not, Option.isNone_iff_eq_none, not_true_eq_false, not_false_eq_true] at hb); try (exfalso; omega))) | (refine v_cond rfl ?_ ?_ <;> (intro hb; (try simp only [decide_eq_true_eq, decide_eq_false_iff_not, Bool.not_eq_true', Bool.not_eq_false', ne_eq, Decidable.not_not, Option.isNone_iff_eq_none, not_true_eq_false, not_false_eq_true] at hb); try (exfalso; omega))) | fail)
    rw [show n - 1 - k - 1 = n - 1 - (k + 1) by omega]
    refine ⟨rfl, (k + 1, (ws.set k y).set (n - 1 - k) x), ⟨by dsimp only; omega, by dsimp only; omega, by simp [hwl], hst⟩, by dsimp only; omega, ?_, Ent.refl _ _⟩
    (repeat' (first | exact Sub.nil _ | refine Sub.cons rfl rfl ?_ | refine Sub.cons rfl ?_ ?_))
  · obtain rfl := rev_done hn.symm hwl hlt hws
    repeat' (first | (refine go1 ?_; intros) | (refine vl_caseG rfl rfl rfl rfl ?_ ?_ <;> (intro hb; (try simp only [decide_eq_true_eq, decide_eq_false_iff_not, Bool.not_eq_true', Bool.not_eq_false', ne_eq, Decidable.not_not, Option.isNone_iff_eq_none, not_true_eq_false, not_false_eq_true] at hb); try (exfalso; omega))) | (refine v_cond rfl ?_ ?_ <;> (intro hb; (try simp only [decide_eq_true_eq, decide_eq_false_iff_not, Bool.not_eq_true', Bool.not_eq_false', ne_eq, Decidable.not_not, Option.isNone_iff_eq_none, not_true_eq_false, not_false_eq_true] at hb); try (exfalso; omega))) | fail)
    exact ⟨_, Ent.refl _ _, rfl⟩

theorem fromB_head2 {p : Prf} {j : Nat} {qs : List PB} (hl : qs.length = j + 1) (h : ls qs = (fromB p j).reverse) (hk : qs.length - 1 < qs.length) : (qs[qs.length - 1]).l = (fromB p j).headD [] := by
  have h2 : (ls qs)[qs.length - 1]? = some (qs[qs.length - 1]).l := by rw [ls, List.getElem?_map, List.getElem?_eq_getElem hk]; rfl
  generalize (qs[qs.length - 1]).l = x at h2 ⊢
  obtain ⟨r, rs, hr⟩ := fromB_head p j
  have hlr : rs.length = j := by have := fromB_len p j; rw [hr] at this; simpa using this
  rw [h, hr, List.reverse_cons, hl, List.getElem?_append_right (by simp; omega)] at h2
  simp [hlr] at h2
  rw [hr, List.headD_cons, h2]
theorem ls_snoc (qs : List PB) (q : PB) : ls (qs ++ [q]) = ls qs ++ [q.l] := by simp [ls]
set_option maxRecDepth 100000 in
set_option maxHeartbeats 4000000 in
theorem vin_vc (w0 : World) (L : List Asn) [hK : RdA w0 (some ⟨0, 0, none⟩) (wds K64)] (p : Prf) (h : p.ok) [hr : RdC w0 L p.va (bvs p.vl)] [hr2 : RdC w0 L p.pa (bvs p.pl.flatten)] :
    VC Tryd.prog w0 56 [.agg p.cells.toArray] L fun v L' => ∃ a c qs, v = .tuple #[.slice a qs.length c, .int .i64 (if p.may then 0 else 8)] ∧ ls qs = (if p.may then fromB p p.pl.length else []) ∧ L' = own 27 1 a qs.length c (pbs qs) :: psA qs :: L := by
  have hlen := Prf.len h
  have f4 := Prf.f4 h
  refine vc_ent ?_
  refine vc_in rfl rfl ?_
  repeat' (first | (refine go1 ?_; intros) | (refine vl_caseG rfl rfl rfl rfl ?_ ?_ <;> (intro hb; (try simp only [decide_eq_true_eq, decide_eq_false_iff_not, Bool.not_eq_true', Bool.not_eq_false', ne_eq, Decidable.not_not, Option.isNone_iff_eq_none, not_true_eq_false, not_false_eq_true] at hb); try (exfalso; omega))) | (refine v_cond rfl ?_ ?_ <;> (intro hb; (try simp only [decide_eq_true_eq, decide_eq_false_iff_not, Bool.not_eq_true', Bool.not_eq_false', ne_eq, Decidable.not_not, Option.isNone_iff_eq_none, not_true_eq_false, not_false_eq_true] at hb); try (exfalso; omega))) | fail)
  refine vl_o rfl (vo_call rfl rfl ?_)
  refine vc_mono (check_vc w0 _ p h) ?_
  rintro v L' ⟨rfl, rfl⟩
  cases hm : p.may
  · repeat' (first | (refine go1 ?_; intros) | (refine vl_caseG rfl rfl rfl rfl ?_ ?_ <;> (intro hb; (try simp only [decide_eq_true_eq, decide_eq_false_iff_not, Bool.not_eq_true', Bool.not_eq_false', ne_eq, Decidable.not_not, Option.isNone_iff_eq_none, not_true_eq_false, not_false_eq_true] at hb); try (exfalso; omega))) | (refine v_cond rfl ?_ ?_ <;> (intro hb; (try simp only [decide_eq_true_eq, decide_eq_false_iff_not, Bool.not_eq_true', Bool.not_eq_false', ne_eq, Decidable.not_not, Option.isNone_iff_eq_none, not_true_eq_false, not_false_eq_true] at hb); try (exfalso; omega))) | fail)
    refine ⟨_, ((se_drop _ _).trans ((se_psA_nil L).trans (se_own_nil 27 1 _))).ent w0, none, 0, [], ?_, rfl, rfl⟩
    rfl
  have hpl := Prf.may_pl hm
  have hvl := Prf.may_vl hm
  repeat' (first | (refine go1 ?_; intros) | (refine vl_caseG rfl rfl rfl rfl ?_ ?_ <;> (intro hb; (try simp only [decide_eq_true_eq, decide_eq_false_iff_not, Bool.not_eq_true', Bool.not_eq_false', ne_eq, Decidable.not_not, Option.isNone_iff_eq_none, not_true_eq_false, not_false_eq_true] at hb); try (exfalso; omega))) | (refine v_cond rfl ?_ ?_ <;> (intro hb; (try simp only [decide_eq_true_eq, decide_eq_false_iff_not, Bool.not_eq_true', Bool.not_eq_false', ne_eq, Decidable.not_not, Option.isNone_iff_eq_none, not_true_eq_false, not_false_eq_true] at hb); try (exfalso; omega))) | fail)
  refine vl_o rfl (vo_call rfl rfl ?_)
  refine vc_mono (vend_vc w0 _ p h hvl) ?_
  rintro v L' ⟨a0, c0, rfl, hc0, rfl⟩
  repeat' (first | (refine goN ?_; intros) | (refine vl_caseG rfl rfl rfl rfl ?_ ?_ <;> (intro hb; (try simp only [decide_eq_true_eq, decide_eq_false_iff_not, Bool.not_eq_true', Bool.not_eq_false', ne_eq, Decidable.not_not, Option.isNone_iff_eq_none, not_true_eq_false, not_false_eq_true] at hb); try (exfalso; omega))) | (refine v_cond rfl ?_ ?_ <;> (intro hb; (try simp only [decide_eq_true_eq, decide_eq_false_iff_not, Bool.not_eq_true', Bool.not_eq_false', ne_eq, Decidable.not_not, Option.isNone_iff_eq_none, not_true_eq_false, not_false_eq_true] at hb); try (exfalso; omega))) | fail)
  rename_i gp g1 go
  rw [if_pos rfl, if_pos rfl]
  refine v_loopF (Nat × Option Addr × Nat × List PB) [1, 5, 6, 7, 21] rfl (fun x => [(22, .int .i64 x.1)]) (fun _ x => vinM L go gp p.cells x.2.1 x.2.2.1 x.2.2.2) (fun x => x.1 ≤ p.pl.length ∧ x.2.2.2.length = x.1 + 1 ∧ ls x.2.2.2 = (fromB p x.1).reverse) (fun x => p.pl.length - x.1) (0, some ⟨g1, 0, none⟩, 1, [⟨a0, c0, endB p⟩]) ⟨by omega, rfl, rfl⟩ (by (repeat' (first | exact Sub.nil _ | refine Sub.cons rfl rfl ?_ | refine Sub.cons rfl ?_ ?_))) ?_ ?_
  · refine SE.ent (SE.trans (@SEI.out _ (own 27 1 (some ⟨g1, 0, none⟩) 1 1 [.slice a0 (endB p).length c0] :: blk go 109 [.slice (some ⟨g1, 0, none⟩) 1 1] :: blk gp 30 p.cells :: ownB a0 c0 (endB p) :: L) ?_) (SE.cons _ (SE.cons _ (SE.cons _ ((SE.cons _ (se_psA_nil L)).trans (se_psA_snoc [] L a0 c0 (endB p))))))) w0
    infer_instance
  rintro ⟨j, a, c, qs⟩ ⟨hj, hql, hls⟩
  dsimp only at hj hql hls ⊢
  by_cases hlt : j < p.pl.length
  · have hbd : ∀ x ∈ ls qs, x.length ≤ 200 := fun x hx => fromB_bound h hvl j hj x (by rw [hls] at hx; simpa using hx)
    repeat' (first | (refine goN ?_; intros) | (refine vl_caseG rfl rfl rfl rfl ?_ ?_ <;> (intro hb; (try simp only [decide_eq_true_eq, decide_eq_false_iff_not, Bool.not_eq_true', Bool.not_eq_false', ne_eq, Decidable.not_not, Option.isNone_iff_eq_none, not_true_eq_false, not_false_eq_true] at hb); try (exfalso; omega))) | (refine v_cond rfl ?_ ?_ <;> (intro hb; (try simp only [decide_eq_true_eq, decide_eq_false_iff_not, Bool.not_eq_true', Bool.not_eq_false', ne_eq, Decidable.not_not, Option.isNone_iff_eq_none, not_true_eq_false, not_false_eq_true] at hb); try (exfalso; omega))) | fail)
    refine vl_o rfl (vo_callV rfl rfl rfl ?_)
    refine vc_mono (vin1_vc w0 L go gp p h hpl (p.pl.length - 1 - j) (by omega) a c qs (by omega) (by omega) hbd) ?_
    rintro v L' ⟨a2, c2, q, hq, hE⟩
    refine vl_ent hE ?_
    repeat' (first | (refine go1 ?_; intros) | (refine vl_caseG rfl rfl rfl rfl ?_ ?_ <;> (intro hb; (try simp only [decide_eq_true_eq, decide_eq_false_iff_not, Bool.not_eq_true', Bool.not_eq_false', ne_eq, Decidable.not_not, Option.isNone_iff_eq_none, not_true_eq_false, not_false_eq_true] at hb); try (exfalso; omega))) | (refine v_cond rfl ?_ ?_ <;> (intro hb; (try simp only [decide_eq_true_eq, decide_eq_false_iff_not, Bool.not_eq_true', Bool.not_eq_false', ne_eq, Decidable.not_not, Option.isNone_iff_eq_none, not_true_eq_false, not_false_eq_true] at hb); try (exfalso; omega))) | fail)
    refine ⟨rfl, (j + 1, a2, c2, qs ++ [q]), ⟨by dsimp only; omega, by simp; omega, ?_⟩, by dsimp only; omega, ?_, Ent.refl _ _⟩
    · dsimp only
      rw [ls_snoc, hls, fromB, List.reverse_cons, hq, fromB_head2 hql hls (by omega), show p.pl.length - (j + 1) = p.pl.length - 1 - j by omega]
      congr 3
      simp [List.getD, show p.pl.length - 1 - j < p.pl.length by omega]
    · (repeat' (first | exact Sub.nil _ | refine Sub.cons rfl rfl ?_ | refine Sub.cons rfl ?_ ?_))
  · obtain rfl : j = p.pl.length := by omega
    repeat' (first | (refine go1 ?_; intros) | (refine vl_caseG rfl rfl rfl rfl ?_ ?_ <;> (intro hb; (try simp only [decide_eq_true_eq, decide_eq_false_iff_not, Bool.not_eq_true', Bool.not_eq_false', ne_eq, Decidable.not_not, Option.isNone_iff_eq_none, not_true_eq_false, not_false_eq_true] at hb); try (exfalso; omega))) | (refine v_cond rfl ?_ ?_ <;> (intro hb; (try simp only [decide_eq_true_eq, decide_eq_false_iff_not, Bool.not_eq_true', Bool.not_eq_false', ne_eq, Decidable.not_not, Option.isNone_iff_eq_none, not_true_eq_false, not_false_eq_true] at hb); try (exfalso; omega))) | fail)
    refine vl_o rfl (vo_call rfl rfl ?_)
    refine vc_mono (vrev_vc w0 _ a c qs (n := qs.length) rfl (by omega) (by omega)) ?_
    rintro v L' rfl
    repeat' (first | (refine go1 ?_; intros) | (refine vl_caseG rfl rfl rfl rfl ?_ ?_ <;> (intro hb; (try simp only [decide_eq_true_eq, decide_eq_false_iff_not, Bool.not_eq_true', Bool.not_eq_false', ne_eq, Decidable.not_not, Option.isNone_iff_eq_none, not_true_eq_false, not_false_eq_true] at hb); try (exfalso; omega))) | (refine v_cond rfl ?_ ?_ <;> (intro hb; (try simp only [decide_eq_true_eq, decide_eq_false_iff_not, Bool.not_eq_true', Bool.not_eq_false', ne_eq, Decidable.not_not, Option.isNone_iff_eq_none, not_true_eq_false, not_false_eq_true] at hb); try (exfalso; omega))) | fail)
    refine ⟨own 27 1 a qs.reverse.length c (pbs qs.reverse) :: psA qs.reverse :: L, ?_, a, c, qs.reverse, ?_, ?_, rfl⟩
    · rw [List.length_reverse]
      refine SE.ent (SE.trans (@SEI.out _ (own 27 1 a qs.length c (pbs qs.reverse) :: psA qs :: L) ?_) (SE.cons _ ((se_psA_pull qs L 0 (by omega)).trans (se_psA_push (qs.eraseIdx 0) qs.reverse L (qs[0]'(by omega)) ?_)))) w0
      · infer_instance
      · match qs, hql with
        | q :: qs, _ => exact (List.reverse_perm (q :: qs)).symm
    · rw [List.length_reverse]
    · rw [show ls qs.reverse = (ls qs).reverse by simp [ls], hls, List.reverse_reverse]
end Go.Proofs.YtnoihibaoalkaaaDoor
namespace Go.Proofs.YtnoihibaoalkaaaDoor
open Go Go.RowKit
set_option linter.unusedVariables false
set_option linter.unusedSimpArgs false
open Classical

end Go.Proofs.YtnoihibaoalkaaaDoor
namespace Go.Proofs.YtnoihibaoalkaaaDoor
open Go Go.RowKit
set_option linter.unusedVariables false
set_option linter.unusedSimpArgs false
open Classical

/-- A proof's root. -/
noncomputable def Prf.root (p : Prf) : List UInt8 := if p.may then sha ((fromB p p.pl.length).headD []) else List.replicate 32 0
noncomputable def Prf.ins (p : Prf) : List (List UInt8) := if p.may then fromB p p.pl.length else []
theorem Prf.root_len (p : Prf) : p.root.length = 32 := by
  unfold Prf.root
  split
  · exact sha_length _
  · simp
/-- What is digested, and the error: all of it the call's own. -/
def RIns (w0 : World) (L : List Asn) (p : Prf) (v : Value) (L' : List Asn) : Prop := ∃ a c qs, v = .tuple #[.slice a qs.length c, .int .i64 (if p.may then 0 else 8)] ∧ ls qs = p.ins ∧ L' = own 27 1 a qs.length c (pbs qs) :: psA qs :: L
theorem vins_vc (w0 : World) (L : List Asn) [hK : RdA w0 (some ⟨0, 0, none⟩) (wds K64)] (p : Prf) (h : p.ok) [hr : RdC w0 L p.va (bvs p.vl)] [hr2 : RdC w0 L p.pa (bvs p.pl.flatten)] :
    VC Tryd.prog w0 56 [.agg p.cells.toArray] L (RIns w0 L p) := vin_vc w0 L p h
set_option maxHeartbeats 1000000 in
theorem vroot_vc (w0 : World) (L : List Asn) [hK : RdA w0 (some ⟨0, 0, none⟩) (wds K64)] (p : Prf) (h : p.ok) [hr : RdC w0 L p.va (bvs p.vl)] [hr2 : RdC w0 L p.pa (bvs p.pl.flatten)] :
    VC Tryd.prog w0 49 [.agg p.cells.toArray] L fun v L' => v = .tuple #[.agg (bvs p.root).toArray, .int .i64 (if p.may then 0 else 8)] ∧ L' = L := by
  have hlen := Prf.len h
  refine vc_ent ?_
  refine vc_in rfl rfl ?_
  repeat' (first | (refine go1 ?_; intros) | (refine vl_caseG rfl rfl rfl rfl ?_ ?_ <;> (intro hb; (try simp only [decide_eq_true_eq, decide_eq_false_iff_not, Bool.not_eq_true', Bool.not_eq_false', ne_eq, Decidable.not_not, Option.isNone_iff_eq_none, not_true_eq_false, not_false_eq_true] at hb); try (exfalso; omega))) | (refine v_cond rfl ?_ ?_ <;> (intro hb; (try simp only [decide_eq_true_eq, decide_eq_false_iff_not, Bool.not_eq_true', Bool.not_eq_false', ne_eq, Decidable.not_not, Option.isNone_iff_eq_none, not_true_eq_false, not_false_eq_true] at hb); try (exfalso; omega))) | fail)
  refine vl_o rfl (vo_call rfl rfl ?_)
  refine vc_mono (vins_vc w0 _ p h) ?_
  rintro v L' ⟨a, c, qs, rfl, hls, rfl⟩
  unfold Prf.ins at hls
  unfold Prf.root
  cases hm : p.may
  · repeat' (first | (refine go1 ?_; intros) | (refine vl_caseG rfl rfl rfl rfl ?_ ?_ <;> (intro hb; (try simp only [decide_eq_true_eq, decide_eq_false_iff_not, Bool.not_eq_true', Bool.not_eq_false', ne_eq, Decidable.not_not, Option.isNone_iff_eq_none, not_true_eq_false, not_false_eq_true] at hb); try (exfalso; omega))) | (refine v_cond rfl ?_ ?_ <;> (intro hb; (try simp only [decide_eq_true_eq, decide_eq_false_iff_not, Bool.not_eq_true', Bool.not_eq_false', ne_eq, Decidable.not_not, Option.isNone_iff_eq_none, not_true_eq_false, not_false_eq_true] at hb); try (exfalso; omega))) | fail)
    exact ⟨L, sei _ _ _, rfl, rfl⟩
  rw [hm, if_pos rfl] at hls
  rw [if_pos rfl, if_pos rfl]
  have hpl := Prf.may_pl hm
  have hv := Prf.may_vl hm
  have hql : qs.length = p.pl.length + 1 := by have := congrArg List.length hls; rw [fromB_len] at this; simpa [ls] using this
  have hg := pbs_get qs 0 (by omega)
  obtain ⟨q, hq⟩ : ∃ q, q = qs[0]'(by omega) := ⟨_, rfl⟩
  rw [← hq] at hg
  have hmem : q ∈ qs := by rw [hq]; exact List.getElem_mem _
  have hqb : q.l.length ≤ 200 := fromB_bound h hv p.pl.length (by omega) _ (by rw [← hls]; exact List.mem_map.2 ⟨q, hmem, rfl⟩)
  have hqh : (fromB p p.pl.length).headD [] = q.l := by
    rw [← hls, hq]
    match qs, hql with
    | q :: qs, _ => rfl
  rw [hqh]
  have hpos : 0 < (pbs qs).length := by simp; omega
  rename_i gp gr
  haveI hps : RdPs w0 (own 27 1 a qs.length c (pbs qs) :: psA qs :: blk gr 26 (bvs (List.replicate 32 0)) :: blk gp 30 p.cells :: L) qs := inferInstance
  haveI hrq := hps.out q hmem
  repeat' (first | (refine go1 ?_; intros) | (refine vl_caseG rfl rfl rfl rfl ?_ ?_ <;> (intro hb; (try simp only [decide_eq_true_eq, decide_eq_false_iff_not, Bool.not_eq_true', Bool.not_eq_false', ne_eq, Decidable.not_not, Option.isNone_iff_eq_none, not_true_eq_false, not_false_eq_true] at hb); try (exfalso; omega))) | (refine v_cond rfl ?_ ?_ <;> (intro hb; (try simp only [decide_eq_true_eq, decide_eq_false_iff_not, Bool.not_eq_true', Bool.not_eq_false', ne_eq, Decidable.not_not, Option.isNone_iff_eq_none, not_true_eq_false, not_false_eq_true] at hb); try (exfalso; omega))) | fail)
  rename_i g
  refine vl_o rfl (vo_call rfl rfl ?_)
  refine vc_mono (of_vc w0 _ (some ⟨g, 0, none⟩) 1 q rfl (by omega) (hr := (inferInstance : RdC w0 _ _ [.slice q.a q.l.length q.cap]))) ?_
  rintro v L' ⟨rfl, rfl⟩
  have hS := sha_length q.l
  generalize sha q.l = S at *
  repeat' (first | (refine go1 ?_; intros) | (refine vl_caseG rfl rfl rfl rfl ?_ ?_ <;> (intro hb; (try simp only [decide_eq_true_eq, decide_eq_false_iff_not, Bool.not_eq_true', Bool.not_eq_false', ne_eq, Decidable.not_not, Option.isNone_iff_eq_none, not_true_eq_false, not_false_eq_true] at hb); try (exfalso; omega))) | (refine v_cond rfl ?_ ?_ <;> (intro hb; (try simp only [decide_eq_true_eq, decide_eq_false_iff_not, Bool.not_eq_true', Bool.not_eq_false', ne_eq, Decidable.not_not, Option.isNone_iff_eq_none, not_true_eq_false, not_false_eq_true] at hb); try (exfalso; omega))) | fail)
  exact ⟨L, sei _ _ _, rfl, rfl⟩
theorem vfits_vc (w0 : World) (L : List Asn) [hK : RdA w0 (some ⟨0, 0, none⟩) (wds K64)] (p : Prf) (h : p.ok) (r : List UInt8) (hrl : r.length = 32) [hr : RdC w0 L p.va (bvs p.vl)] [hr2 : RdC w0 L p.pa (bvs p.pl.flatten)] :
    VC Tryd.prog w0 14 [.agg p.cells.toArray, .agg (bvs r).toArray] L fun v L' => v = .bool (p.may && decide (p.root = r)) ∧ L' = L := by
  have hlen := Prf.len h
  refine vc_ent ?_
  refine vc_in rfl rfl ?_
  repeat' (first | (refine go1 ?_; intros) | (refine vl_caseG rfl rfl rfl rfl ?_ ?_ <;> (intro hb; (try simp only [decide_eq_true_eq, decide_eq_false_iff_not, Bool.not_eq_true', Bool.not_eq_false', ne_eq, Decidable.not_not, Option.isNone_iff_eq_none, not_true_eq_false, not_false_eq_true] at hb); try (exfalso; omega))) | (refine v_cond rfl ?_ ?_ <;> (intro hb; (try simp only [decide_eq_true_eq, decide_eq_false_iff_not, Bool.not_eq_true', Bool.not_eq_false', ne_eq, Decidable.not_not, Option.isNone_iff_eq_none, not_true_eq_false, not_false_eq_true] at hb); try (exfalso; omega))) | fail)
  refine vl_o rfl (vo_call rfl rfl ?_)
  refine vc_mono (vroot_vc w0 _ p h) ?_
  rintro v L' ⟨rfl, rfl⟩
  have hS := p.root_len
  generalize p.root = S at *
  cases hm : p.may
  · repeat' (first | (refine go1 ?_; intros) | (refine vl_caseG rfl rfl rfl rfl ?_ ?_ <;> (intro hb; (try simp only [decide_eq_true_eq, decide_eq_false_iff_not, Bool.not_eq_true', Bool.not_eq_false', ne_eq, Decidable.not_not, Option.isNone_iff_eq_none, not_true_eq_false, not_false_eq_true] at hb); try (exfalso; omega))) | (refine v_cond rfl ?_ ?_ <;> (intro hb; (try simp only [decide_eq_true_eq, decide_eq_false_iff_not, Bool.not_eq_true', Bool.not_eq_false', ne_eq, Decidable.not_not, Option.isNone_iff_eq_none, not_true_eq_false, not_false_eq_true] at hb); try (exfalso; omega))) | fail)
    exact ⟨L, sei _ _ _, rfl, rfl⟩
  · repeat' (first | (refine go1 ?_; intros) | (refine vl_caseG rfl rfl rfl rfl ?_ ?_ <;> (intro hb; (try simp only [decide_eq_true_eq, decide_eq_false_iff_not, Bool.not_eq_true', Bool.not_eq_false', ne_eq, Decidable.not_not, Option.isNone_iff_eq_none, not_true_eq_false, not_false_eq_true] at hb); try (exfalso; omega))) | (refine v_cond rfl ?_ ?_ <;> (intro hb; (try simp only [decide_eq_true_eq, decide_eq_false_iff_not, Bool.not_eq_true', Bool.not_eq_false', ne_eq, Decidable.not_not, Option.isNone_iff_eq_none, not_true_eq_false, not_false_eq_true] at hb); try (exfalso; omega))) | fail)
    exact ⟨L, sei _ _ _, by simp, rfl⟩
end Go.Proofs.YtnoihibaoalkaaaDoor
namespace Go.Proofs.YtnoihibaoalkaaaDoor
open Go Go.RowKit
set_option linter.unusedVariables false
set_option linter.unusedSimpArgs false
open Classical

def prf0 : Prf := ⟨List.replicate 32 0, 0, List.replicate 32 0, none, 0, [], none, 0, []⟩
theorem prf0_ok : prf0.ok := ⟨rfl, by decide, rfl, by simp [Dg, prf0], by decide, by decide⟩
theorem prf0_may : prf0.may = true := by simp [Prf.may, Prf.may1, prf0, zero32]
theorem prf0_ins : prf0.ins = [[0]] := by
  unfold Prf.ins
  rw [prf0_may, if_pos rfl]
  rfl
theorem prf0_root : prf0.root = sha [0] := by
  unfold Prf.root
  rw [prf0_may, if_pos rfl]
  rfl
end Go.Proofs.YtnoihibaoalkaaaDoor
