/-
  Pairs of a tree, with a value for a key, without a key: the document's.
-/
import Derived.Test.YtmaimkbppnpbnaaDoorTD
import Derived.Test.YtmaimkbppnpbnaaDoorTPtD
import Derived.Test.YtmaimkbppnpbnaaDoorTSpA
import Derived.Test.YtmaimkbppnpbnaaDoorGM
set_option linter.unusedVariables false
set_option linter.unusedSimpArgs false
namespace Go.Proofs.YtmaimkbppnpbnaaDoor
open Go Go.RowKit
set_option linter.unusedVariables false
set_option linter.unusedSimpArgs false
open Classical

theorem all6_vc (w0 : World) (L : List Asn) (a : Option Addr) (c : Nat) (ns : List Nd) (r : Int) {n : Nat} (hn : n = ns.length) (hok : NsOk ns) (hm : MayP ns r) [hr : RdC w0 L a (ndc ns)] [hv : RdNs w0 L ns] :
    VC Tryd.prog w0 67 [.agg #[.slice a n c, .int .i64 r]] L (RPs w0 L (forP ns r.toNat)) := by
  subst hn
  obtain ⟨rn, rfl⟩ : ∃ rn : Nat, r = rn := ⟨r.toNat, by have := hm.lo; omega⟩
  have hhi := hm.hi
  rw [Int.toNat_natCast]
  refine vc_ent ?_
  refine vc_in rfl rfl ?_
  repeat' (first | (refine go1 ?_; intros) | (refine vl_caseG rfl rfl rfl rfl ?_ ?_ <;> (intro hb; (try simp only [decide_eq_true_eq, decide_eq_false_iff_not, Bool.not_eq_true', Bool.not_eq_false', ne_eq, Decidable.not_not, Option.isNone_iff_eq_none, not_true_eq_false, not_false_eq_true] at hb); try (exfalso; omega))) | (refine v_cond rfl ?_ ?_ <;> (intro hb; (try simp only [decide_eq_true_eq, decide_eq_false_iff_not, Bool.not_eq_true', Bool.not_eq_false', ne_eq, Decidable.not_not, Option.isNone_iff_eq_none, not_true_eq_false, not_false_eq_true] at hb); try (exfalso; omega))) | fail)
  refine vl_o rfl (vo_call rfl rfl ?_)
  refine vc_mono (for6_vc w0 a c ns rn hok hm.ones rn _ 0 zb (by omega) (fun _ _ => rfl) hm.right) ?_
  rintro v L' ⟨a1, c1, ps, rfl, hps, rfl⟩
  repeat' (first | (refine go1 ?_; intros) | (refine vl_caseG rfl rfl rfl rfl ?_ ?_ <;> (intro hb; (try simp only [decide_eq_true_eq, decide_eq_false_iff_not, Bool.not_eq_true', Bool.not_eq_false', ne_eq, Decidable.not_not, Option.isNone_iff_eq_none, not_true_eq_false, not_false_eq_true] at hb); try (exfalso; omega))) | (refine v_cond rfl ?_ ?_ <;> (intro hb; (try simp only [decide_eq_true_eq, decide_eq_false_iff_not, Bool.not_eq_true', Bool.not_eq_false', ne_eq, Decidable.not_not, Option.isNone_iff_eq_none, not_true_eq_false, not_false_eq_true] at hb); try (exfalso; omega))) | fail)
  exact ⟨_, sei _ _ (ownPs a1 c1 ps :: vsA ps :: L), a1, c1, ps, rfl, hps, rfl⟩
theorem all_ok {ns : List Nd} {r : Int} (hok : NsOk ns) (hm : MayP ns r) {ps : List PR} (h : kvs ps = forP ns r.toNat) : PsOk ps := for_ok hok (fun _ _ => rfl) hm.right h
end Go.Proofs.YtmaimkbppnpbnaaDoor
