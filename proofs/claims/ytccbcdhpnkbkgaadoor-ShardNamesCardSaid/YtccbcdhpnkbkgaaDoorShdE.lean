/-
  The first of a shard's lines that something holds of.
-/
import Derived.Test.YtccbcdhpnkbkgaaDoorShdA
set_option linter.unusedVariables false
set_option linter.unusedSimpArgs false
namespace Go.Proofs.YtccbcdhpnkbkgaaDoor
open Go Go.RowKit
set_option linter.unusedVariables false
set_option linter.unusedSimpArgs false
open Classical

/-- The place of the first, or -1. -/
def idxI (ls : List Ln) (φ : Ln → Bool) : Int := if ls.findIdx φ < ls.length then (ls.findIdx φ : Int) else -1
theorem idxI_at {ls : List Ln} {φ : Ln → Bool} {i : Nat} (hi : i < ls.length) (h : φ ls[i] = true) (hb : ∀ j (hj : j < ls.length), j < i → φ ls[j] = false) : idxI ls φ = (i : Int) := by
  have : ls.findIdx φ = i := by
    rw [List.findIdx_eq hi]
    exact ⟨h, fun j hj => hb j (by omega) hj⟩
  unfold idxI
  rw [this, if_pos hi]
theorem idxI_no {ls : List Ln} {φ : Ln → Bool} (hb : ∀ j (hj : j < ls.length), φ ls[j] = false) : idxI ls φ = -1 := by
  unfold idxI
  rw [if_neg]
  intro h
  have h1 := List.findIdx_getElem (w := h)
  rw [hb _ h] at h1
  cases h1
set_option maxRecDepth 100000 in
set_option maxHeartbeats 1000000 in
theorem idxF_vc (w0 : World) (L : List Asn) (a : Option Addr) (c : Nat) (ls : List Ln) (f : FuncId) (cap : Array Value) (φ : Ln → Bool) {n : Nat} (hn : n = ls.length) (h : LsOk ls) [hf : FnB Tryd.prog f] [hr : RdC w0 L a (lnc ls)] (hφ : ∀ l ∈ ls, VC Tryd.prog w0 f ([.agg l.cells.toArray] ++ cap.toList) L fun v L' => v = .bool (φ l) ∧ L' = L) :
    VC Tryd.prog w0 103 [.slice a n c, .func (.func f) #[] cap] L fun v L' => v = .int .i64 (idxI ls φ) ∧ L' = L := by
  subst hn
  have hlen := h.len
  refine vc_ent ?_
  refine vc_in rfl rfl ?_
  repeat' (first | (refine go1 ?_; intros) | ((first | refine vl_caseG rfl rfl rfl rfl ?_ ?_ | refine v_cond rfl ?_ ?_) <;> (intro hb; (try simp only [hq1, hq2, hq3, hq4, ne_eq, hq5, hq6, hq7, hq8] at hb); try (exfalso; omega))) | fail)
  refine v_loopS Nat [0, 1, 7] rfl (fun i => [(8, .int .i64 i)]) (fun i => i ≤ ls.length ∧ ∀ j (hj : j < ls.length), j < i → φ ls[j] = false) (fun i => ls.length - i) 0 ⟨Nat.zero_le _, fun j hj h => by omega⟩ (by (repeat' (first | exact Sub.nil _ | refine Sub.cons rfl rfl ?_ | refine Sub.cons rfl ?_ ?_))) (fun i ⟨hi, hbb⟩ => ?_)
  by_cases hlt : i < ls.length
  · have e := h.e i hlt
    have hpos := h.pos i hlt
    have hcl := Ln.len (h.at i hlt).own
    have hF := hφ _ (List.getElem_mem hlt)
    repeat' (first | (refine go1 ?_; intros) | ((first | refine vl_caseG rfl rfl rfl rfl ?_ ?_ | refine v_cond rfl ?_ ?_) <;> (intro hb; (try simp only [hq1, hq2, hq3, hq4, ne_eq, hq5, hq6, hq7, hq8] at hb); try (exfalso; omega))) | fail)
    refine vl_o rfl (vo_callV rfl rfl rfl ?_)
    refine vc_mono hF ?_
    rintro v L' ⟨rfl, hL⟩
    obtain rfl := hL.symm
    cases hp : φ ls[i]
    · repeat' (first | (refine go1 ?_; intros) | ((first | refine vl_caseG rfl rfl rfl rfl ?_ ?_ | refine v_cond rfl ?_ ?_) <;> (intro hb; (try simp only [hq1, hq2, hq3, hq4, ne_eq, hq5, hq6, hq7, hq8] at hb); try (exfalso; omega))) | fail)
      refine ⟨rfl, i + 1, ⟨by omega, fun j hj hji => ?_⟩, by omega, by (repeat' (first | exact Sub.nil _ | refine Sub.cons rfl rfl ?_ | refine Sub.cons rfl ?_ ?_)), Ent.refl _ _⟩
      by_cases e : j = i
      · subst e; exact hp
      · exact hbb j hj (by omega)
    · repeat' (first | (refine go1 ?_; intros) | ((first | refine vl_caseG rfl rfl rfl rfl ?_ ?_ | refine v_cond rfl ?_ ?_) <;> (intro hb; (try simp only [hq1, hq2, hq3, hq4, ne_eq, hq5, hq6, hq7, hq8] at hb); try (exfalso; omega))) | fail)
      exact ⟨L, sei _ _ _, by rw [idxI_at hlt hp hbb], rfl⟩
  · obtain rfl : i = ls.length := by omega
    repeat' (first | (refine go1 ?_; intros) | ((first | refine vl_caseG rfl rfl rfl rfl ?_ ?_ | refine v_cond rfl ?_ ?_) <;> (intro hb; (try simp only [hq1, hq2, hq3, hq4, ne_eq, hq5, hq6, hq7, hq8] at hb); try (exfalso; omega))) | fail)
    exact ⟨L, sei _ _ _, by rw [idxI_no (fun j hj => hbb j hj hj)], rfl⟩
end Go.Proofs.YtccbcdhpnkbkgaaDoor
