/-
  A request's parts, as the program makes them.
-/
import Derived.Test.YtgffejpcldeklaaGHC
set_option linter.unusedVariables false
set_option linter.unusedSimpArgs false
set_option linter.unusedSectionVars false

namespace Go.Proofs.Ytgffejpcldeklaa
open Go Go.RowKit
open Classical

theorem wheight_vc (w0 : World) (L : List Asn) (p : Option Addr) :
    VC Try.prog w0 39 [.pointer p] L fun v L' => v = .iface 69 (.agg #[.pointer p, .int .i64 8, .int .i64 1073741824]) ∧ L' = L := by
  refine vc_ent ?_
  refine vc_in rfl rfl ?_
  repeat' (first | (refine go1 ?_; intros) | (refine goCC ?_ ?_ <;> (intro hb; (try simp only [hSQ] at hb); try (exfalso; omega))) | fail)
  refine vl_q rfl rfl rfl rfl (vq_mkIface rfl) ?_
  repeat' (first | (refine go1 ?_; intros) | (refine goCC ?_ ?_ <;> (intro hb; (try simp only [hSQ] at hb); try (exfalso; omega))) | fail)
  exact ⟨L, sei _ _ _, rfl, rfl⟩
theorem wsub_vc (w0 : World) (L : List Asn) (p : Option Addr) :
    VC Try.prog w0 42 [.pointer p] L fun v L' => v = .iface 69 (.agg #[.pointer p, .int .i64 4, .int .i64 1073741823]) ∧ L' = L := by
  refine vc_ent ?_
  refine vc_in rfl rfl ?_
  repeat' (first | (refine go1 ?_; intros) | (refine goCC ?_ ?_ <;> (intro hb; (try simp only [hSQ] at hb); try (exfalso; omega))) | fail)
  refine vl_q rfl rfl rfl rfl (vq_mkIface rfl) ?_
  repeat' (first | (refine go1 ?_; intros) | (refine goCC ?_ ?_ <;> (intro hb; (try simp only [hSQ] at hb); try (exfalso; omega))) | fail)
  exact ⟨L, sei _ _ _, rfl, rfl⟩
instance oc_iface (t : TypeId) (v : Value) (vs : List Value) [h : OC vs] : OC (.iface t v :: vs) := ⟨by intro u hu; rcases List.mem_cons.1 hu with rfl | hu; rfl; exact h.out u hu⟩
instance oc_funcW (f : Fn) (a b : Array Value) (vs : List Value) [h : OC vs] : OC (.func f a b :: vs) := ⟨by intro u hu; rcases List.mem_cons.1 hu with rfl | hu; rfl; exact h.out u hu⟩
end Go.Proofs.Ytgffejpcldeklaa
