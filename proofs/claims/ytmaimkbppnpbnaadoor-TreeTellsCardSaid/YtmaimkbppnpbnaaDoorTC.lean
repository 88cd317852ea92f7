/-
  Whether a tree may be: the program's and the document's. How great a tree is; twins of trees. Whether two trees are the same. Whether two trees are the same: the program's.
-/
import Derived.Test.YtmaimkbppnpbnaaDoorTreD
import Derived.Test.YtmaimkbppnpbnaaDoorGK
set_option linter.unusedVariables false
set_option linter.unusedSimpArgs false
namespace Go.Proofs.YtmaimkbppnpbnaaDoor
open Go Go.RowKit
set_option linter.unusedVariables false
set_option linter.unusedSimpArgs false
open Classical

theorem MayP.not_one {ns : List Nd} {r : Int} {i : Nat} (hi : i < ns.length) (h : ¬ oneP ns[i] i) : ¬ MayP ns r := fun e => h (e.ones.at hi)
set_option maxRecDepth 100000 in
set_option maxHeartbeats 1000000 in
theorem tcheck_vc (w0 : World) (L : List Asn) (a : Option Addr) (c : Nat) (ns : List Nd) (r : Int) {n : Nat} (hn : n = ns.length) (hok : NsOk ns) [hr : RdC w0 L a (ndc ns)] :
    VC Tryd.prog w0 30 [.agg #[.slice a n c, .int .i64 r]] L fun v L' => v = .int .i64 (if MayP ns r then 0 else 8) ∧ L' = L := by
  subst hn
  have hlen := hok.len
  refine vc_ent ?_
  refine vc_in rfl rfl ?_
  have hno : ∀ {v : Value}, ¬ MayP ns r → v = .int .i64 8 → v = .int .i64 (if MayP ns r then 0 else 8) := fun h1 h2 => by rw [h2, if_neg h1]
  by_cases hbad : ns.length ≤ 262144 ∧ 0 ≤ r ∧ r ≤ ns.length
  · obtain ⟨hb1, hb2, hb3⟩ := hbad
    repeat' (first | (refine goU ?_; intros) | (refine vl_caseG rfl rfl rfl rfl ?_ ?_ <;> (intro hb; (try simp only [decide_eq_true_eq, decide_eq_false_iff_not, Bool.not_eq_true', Bool.not_eq_false', ne_eq, Decidable.not_not, Option.isNone_iff_eq_none, not_true_eq_false, not_false_eq_true] at hb); try (exfalso; omega))) | (refine v_cond rfl ?_ ?_ <;> (intro hb; (try simp only [decide_eq_true_eq, decide_eq_false_iff_not, Bool.not_eq_true', Bool.not_eq_false', ne_eq, Decidable.not_not, Option.isNone_iff_eq_none, not_true_eq_false, not_false_eq_true] at hb); try (exfalso; omega))) | fail)
    refine v_loopS Nat [1, 26, 25] rfl (fun i => [(27, .int .i64 i)]) (fun i => i ≤ ns.length ∧ onesP (ns.take i)) (fun i => ns.length - i) 0 ⟨Nat.zero_le _, by simp [onesP]⟩ (by (repeat' (first | exact Sub.nil _ | refine Sub.cons rfl rfl ?_ | refine Sub.cons rfl ?_ ?_))) (fun i ⟨hi, ho⟩ => ?_)
    by_cases hlt : i < ns.length
    · have he := hok.e i hlt
      have hpos := hok.pos i hlt
      have hk := hok.k32at i hlt
      have hv := hok.vlat i hlt
      have hN := MayP.not_one (r := r) hlt
      have hS := onesP_step hlt ho
      have hO := fun L => one_vc w0 L ns[i] i hk hv (by omega)
      have hc := Nd.len hk
      haveI hoc : OC ns[i].cells := oc_nd _
      generalize ns[i] = x at *
      generalize x.cells = cs at *
      repeat' (first | (refine go1 ?_; intros) | (refine vl_caseG rfl rfl rfl rfl ?_ ?_ <;> (intro hb; (try simp only [decide_eq_true_eq, decide_eq_false_iff_not, Bool.not_eq_true', Bool.not_eq_false', ne_eq, Decidable.not_not, Option.isNone_iff_eq_none, not_true_eq_false, not_false_eq_true] at hb); try (exfalso; omega))) | (refine v_cond rfl ?_ ?_ <;> (intro hb; (try simp only [decide_eq_true_eq, decide_eq_false_iff_not, Bool.not_eq_true', Bool.not_eq_false', ne_eq, Decidable.not_not, Option.isNone_iff_eq_none, not_true_eq_false, not_false_eq_true] at hb); try (exfalso; omega))) | fail)
      refine vl_o rfl (vo_call rfl rfl ?_)
      refine vc_mono (hO _) ?_
      rintro v L' ⟨rfl, rfl⟩
      by_cases h1 : oneP x i
      · rw [decide_eq_true h1]
        repeat' (first | (refine go1 ?_; intros) | (refine vl_caseG rfl rfl rfl rfl ?_ ?_ <;> (intro hb; (try simp only [decide_eq_true_eq, decide_eq_false_iff_not, Bool.not_eq_true', Bool.not_eq_false', ne_eq, Decidable.not_not, Option.isNone_iff_eq_none, not_true_eq_false, not_false_eq_true] at hb); try (exfalso; omega))) | (refine v_cond rfl ?_ ?_ <;> (intro hb; (try simp only [decide_eq_true_eq, decide_eq_false_iff_not, Bool.not_eq_true', Bool.not_eq_false', ne_eq, Decidable.not_not, Option.isNone_iff_eq_none, not_true_eq_false, not_false_eq_true] at hb); try (exfalso; omega))) | fail)
        exact ⟨rfl, i + 1, ⟨by omega, hS h1⟩, by omega, by (repeat' (first | exact Sub.nil _ | refine Sub.cons rfl rfl ?_ | refine Sub.cons rfl ?_ ?_)), sei _ _ _⟩
      · rw [decide_eq_false h1]
        repeat' (first | (refine go1 ?_; intros) | (refine vl_caseG rfl rfl rfl rfl ?_ ?_ <;> (intro hb; (try simp only [decide_eq_true_eq, decide_eq_false_iff_not, Bool.not_eq_true', Bool.not_eq_false', ne_eq, Decidable.not_not, Option.isNone_iff_eq_none, not_true_eq_false, not_false_eq_true] at hb); try (exfalso; omega))) | (refine v_cond rfl ?_ ?_ <;> (intro hb; (try simp only [decide_eq_true_eq, decide_eq_false_iff_not, Bool.not_eq_true', Bool.not_eq_false', ne_eq, Decidable.not_not, Option.isNone_iff_eq_none, not_true_eq_false, not_false_eq_true] at hb); try (exfalso; omega))) | fail)
        exact ⟨L, sei _ _ _, hno (hN h1) rfl, rfl⟩
    · obtain rfl : i = ns.length := by omega
      rw [List.take_length] at ho
      obtain ⟨rn, rfl⟩ : ∃ rn : Nat, r = rn := ⟨r.toNat, by omega⟩
      have hR := fun L (hr : RdC w0 L a (ndc ns)) => tright_vc w0 a c ns rn hok ho rn L 0 z32 (by omega) (by omega) (by rfl) (fun m _ => by rw [bitAt_z32]; rfl)
      rw [bitAt_z32] at hR
      repeat' (first | (refine go1 ?_; intros) | (refine vl_caseG rfl rfl rfl rfl ?_ ?_ <;> (intro hb; (try simp only [decide_eq_true_eq, decide_eq_false_iff_not, Bool.not_eq_true', Bool.not_eq_false', ne_eq, Decidable.not_not, Option.isNone_iff_eq_none, not_true_eq_false, not_false_eq_true] at hb); try (exfalso; omega))) | (refine v_cond rfl ?_ ?_ <;> (intro hb; (try simp only [decide_eq_true_eq, decide_eq_false_iff_not, Bool.not_eq_true', Bool.not_eq_false', ne_eq, Decidable.not_not, Option.isNone_iff_eq_none, not_true_eq_false, not_false_eq_true] at hb); try (exfalso; omega))) | fail)
      refine vl_o rfl (vo_call rfl rfl ?_)
      refine vc_mono (hR _ inferInstance) ?_
      rintro v L' ⟨rfl, rfl⟩
      by_cases h1 : 0 ≤ rightP ns rn 0 zb
      · rw [decide_eq_true h1]
        repeat' (first | (refine go1 ?_; intros) | (refine vl_caseG rfl rfl rfl rfl ?_ ?_ <;> (intro hb; (try simp only [decide_eq_true_eq, decide_eq_false_iff_not, Bool.not_eq_true', Bool.not_eq_false', ne_eq, Decidable.not_not, Option.isNone_iff_eq_none, not_true_eq_false, not_false_eq_true] at hb); try (exfalso; omega))) | (refine v_cond rfl ?_ ?_ <;> (intro hb; (try simp only [decide_eq_true_eq, decide_eq_false_iff_not, Bool.not_eq_true', Bool.not_eq_false', ne_eq, Decidable.not_not, Option.isNone_iff_eq_none, not_true_eq_false, not_false_eq_true] at hb); try (exfalso; omega))) | fail)
        exact ⟨L, sei _ _ _, by rw [if_pos ⟨hb1, hb2, hb3, ho, h1⟩], rfl⟩
      · rw [decide_eq_false h1]
        repeat' (first | (refine go1 ?_; intros) | (refine vl_caseG rfl rfl rfl rfl ?_ ?_ <;> (intro hb; (try simp only [decide_eq_true_eq, decide_eq_false_iff_not, Bool.not_eq_true', Bool.not_eq_false', ne_eq, Decidable.not_not, Option.isNone_iff_eq_none, not_true_eq_false, not_false_eq_true] at hb); try (exfalso; omega))) | (refine v_cond rfl ?_ ?_ <;> (intro hb; (try simp only [decide_eq_true_eq, decide_eq_false_iff_not, Bool.not_eq_true', Bool.not_eq_false', ne_eq, Decidable.not_not, Option.isNone_iff_eq_none, not_true_eq_false, not_false_eq_true] at hb); try (exfalso; omega))) | fail)
        exact ⟨L, sei _ _ _, hno (fun e => h1 e.right) rfl, rfl⟩
  · repeat' (first | (refine goU ?_; intros) | (refine vl_caseG rfl rfl rfl rfl ?_ ?_ <;> (intro hb; (try simp only [decide_eq_true_eq, decide_eq_false_iff_not, Bool.not_eq_true', Bool.not_eq_false', ne_eq, Decidable.not_not, Option.isNone_iff_eq_none, not_true_eq_false, not_false_eq_true] at hb); try (exfalso; omega))) | (refine v_cond rfl ?_ ?_ <;> (intro hb; (try simp only [decide_eq_true_eq, decide_eq_false_iff_not, Bool.not_eq_true', Bool.not_eq_false', ne_eq, Decidable.not_not, Option.isNone_iff_eq_none, not_true_eq_false, not_false_eq_true] at hb); try (exfalso; omega))) | fail)
    all_goals exact ⟨L, sei _ _ _, hno (fun e => hbad ⟨e.len, e.lo, e.hi⟩) rfl, rfl⟩

set_option maxRecDepth 100000 in
set_option maxHeartbeats 1000000 in
theorem may6_vc (w0 : World) (L : List Asn) (a : Option Addr) (c : Nat) (ns : List Nd) (r : Int) {n : Nat} (hn : n = ns.length) (hok : NsOk ns) [hr : RdC w0 L a (ndc ns)] :
    VC Tryd.prog w0 64 [.agg #[.slice a n c, .int .i64 r]] L fun v L' => v = .bool (decide (MayP ns r)) ∧ L' = L := by
  subst hn
  have hlen := hok.len
  refine vc_ent ?_
  refine vc_in rfl rfl ?_
  have hno : ∀ {v : Value}, ¬ MayP ns r → v = .bool false → v = .bool (decide (MayP ns r)) := fun h1 h2 => by rw [h2, decide_eq_false h1]
  by_cases hbad : ns.length ≤ 262144 ∧ 0 ≤ r ∧ r ≤ ns.length
  · obtain ⟨hb1, hb2, hb3⟩ := hbad
    repeat' (first | (refine goU ?_; intros) | (refine vl_caseG rfl rfl rfl rfl ?_ ?_ <;> (intro hb; (try simp only [decide_eq_true_eq, decide_eq_false_iff_not, Bool.not_eq_true', Bool.not_eq_false', ne_eq, Decidable.not_not, Option.isNone_iff_eq_none, not_true_eq_false, not_false_eq_true] at hb); try (exfalso; omega))) | (refine v_cond rfl ?_ ?_ <;> (intro hb; (try simp only [decide_eq_true_eq, decide_eq_false_iff_not, Bool.not_eq_true', Bool.not_eq_false', ne_eq, Decidable.not_not, Option.isNone_iff_eq_none, not_true_eq_false, not_false_eq_true] at hb); try (exfalso; omega))) | fail)
    refine v_loopS Nat [1] rfl (fun i => [(3, .int .i64 i)]) (fun i => i ≤ ns.length ∧ onesP (ns.take i)) (fun i => ns.length - i) 0 ⟨Nat.zero_le _, by simp [onesP]⟩ (by (repeat' (first | exact Sub.nil _ | refine Sub.cons rfl rfl ?_ | refine Sub.cons rfl ?_ ?_))) (fun i ⟨hi, ho⟩ => ?_)
    by_cases hlt : i < ns.length
    · have he := hok.e i hlt
      have hpos := hok.pos i hlt
      have hk := hok.k32at i hlt
      have hv := hok.vlat i hlt
      have hN := MayP.not_one (r := r) hlt
      have hS := onesP_step hlt ho
      have hO := fun L => one6_vc w0 L ns[i] i hk hv (by omega)
      have hc := Nd.len hk
      haveI hoc : OC ns[i].cells := oc_nd _
      generalize ns[i] = x at *
      generalize x.cells = cs at *
      repeat' (first | (refine go1 ?_; intros) | (refine vl_caseG rfl rfl rfl rfl ?_ ?_ <;> (intro hb; (try simp only [decide_eq_true_eq, decide_eq_false_iff_not, Bool.not_eq_true', Bool.not_eq_false', ne_eq, Decidable.not_not, Option.isNone_iff_eq_none, not_true_eq_false, not_false_eq_true] at hb); try (exfalso; omega))) | (refine v_cond rfl ?_ ?_ <;> (intro hb; (try simp only [decide_eq_true_eq, decide_eq_false_iff_not, Bool.not_eq_true', Bool.not_eq_false', ne_eq, Decidable.not_not, Option.isNone_iff_eq_none, not_true_eq_false, not_false_eq_true] at hb); try (exfalso; omega))) | fail)
      refine vl_o rfl (vo_call rfl rfl ?_)
      refine vc_mono (hO _) ?_
      rintro v L' ⟨rfl, rfl⟩
      by_cases h1 : oneP x i
      · rw [decide_eq_true h1]
        repeat' (first | (refine go1 ?_; intros) | (refine vl_caseG rfl rfl rfl rfl ?_ ?_ <;> (intro hb; (try simp only [decide_eq_true_eq, decide_eq_false_iff_not, Bool.not_eq_true', Bool.not_eq_false', ne_eq, Decidable.not_not, Option.isNone_iff_eq_none, not_true_eq_false, not_false_eq_true] at hb); try (exfalso; omega))) | (refine v_cond rfl ?_ ?_ <;> (intro hb; (try simp only [decide_eq_true_eq, decide_eq_false_iff_not, Bool.not_eq_true', Bool.not_eq_false', ne_eq, Decidable.not_not, Option.isNone_iff_eq_none, not_true_eq_false, not_false_eq_true] at hb); try (exfalso; omega))) | fail)
        exact ⟨rfl, i + 1, ⟨by omega, hS h1⟩, by omega, by (repeat' (first | exact Sub.nil _ | refine Sub.cons rfl rfl ?_ | refine Sub.cons rfl ?_ ?_)), sei _ _ _⟩
      · rw [decide_eq_false h1]
        repeat' (first | (refine go1 ?_; intros) | (refine vl_caseG rfl rfl rfl rfl ?_ ?_ <;> (intro hb; (try simp only [decide_eq_true_eq, decide_eq_false_iff_not, Bool.not_eq_true', Bool.not_eq_false', ne_eq, Decidable.not_not, Option.isNone_iff_eq_none, not_true_eq_false, not_false_eq_true] at hb); try (exfalso; omega))) | (refine v_cond rfl ?_ ?_ <;> (intro hb; (try simp only [decide_eq_true_eq, decide_eq_false_iff_not, Bool.not_eq_true', Bool.not_eq_false', ne_eq, Decidable.not_not, Option.isNone_iff_eq_none, not_true_eq_false, not_false_eq_true] at hb); try (exfalso; omega))) | fail)
        exact ⟨L, sei _ _ _, hno (hN h1) rfl, rfl⟩
    · obtain rfl : i = ns.length := by omega
      rw [List.take_length] at ho
      obtain ⟨rn, rfl⟩ : ∃ rn : Nat, r = rn := ⟨r.toNat, by omega⟩
      have hR := fun L (hr : RdC w0 L a (ndc ns)) => right6_vc w0 a c ns rn hok ho rn L 0 z32 (by omega) (by omega) (by rfl) (fun m _ => by rw [bitAt_z32]; rfl)
      rw [bitAt_z32] at hR
      repeat' (first | (refine go1 ?_; intros) | (refine vl_caseG rfl rfl rfl rfl ?_ ?_ <;> (intro hb; (try simp only [decide_eq_true_eq, decide_eq_false_iff_not, Bool.not_eq_true', Bool.not_eq_false', ne_eq, Decidable.not_not, Option.isNone_iff_eq_none, not_true_eq_false, not_false_eq_true] at hb); try (exfalso; omega))) | (refine v_cond rfl ?_ ?_ <;> (intro hb; (try simp only [decide_eq_true_eq, decide_eq_false_iff_not, Bool.not_eq_true', Bool.not_eq_false', ne_eq, Decidable.not_not, Option.isNone_iff_eq_none, not_true_eq_false, not_false_eq_true] at hb); try (exfalso; omega))) | fail)
      refine vl_o rfl (vo_call rfl rfl ?_)
      refine vc_mono (hR _ inferInstance) ?_
      rintro v L' ⟨rfl, rfl⟩
      repeat' (first | (refine go1 ?_; intros) | (refine vl_caseG rfl rfl rfl rfl ?_ ?_ <;> (intro hb; (try simp only [decide_eq_true_eq, decide_eq_false_iff_not, Bool.not_eq_true', Bool.not_eq_false', ne_eq, Decidable.not_not, Option.isNone_iff_eq_none, not_true_eq_false, not_false_eq_true] at hb); try (exfalso; omega))) | (refine v_cond rfl ?_ ?_ <;> (intro hb; (try simp only [decide_eq_true_eq, decide_eq_false_iff_not, Bool.not_eq_true', Bool.not_eq_false', ne_eq, Decidable.not_not, Option.isNone_iff_eq_none, not_true_eq_false, not_false_eq_true] at hb); try (exfalso; omega))) | fail)
      exact ⟨L, sei _ _ _, congrArg Value.bool (decide_eq_decide.2 ⟨fun h1 => ⟨hb1, hb2, hb3, ho, h1⟩, fun e => e.right⟩), rfl⟩
  · repeat' (first | (refine goU ?_; intros) | (refine vl_caseG rfl rfl rfl rfl ?_ ?_ <;> (intro hb; (try simp only [decide_eq_true_eq, decide_eq_false_iff_not, Bool.not_eq_true', Bool.not_eq_false', ne_eq, Decidable.not_not, Option.isNone_iff_eq_none, not_true_eq_false, not_false_eq_true] at hb); try (exfalso; omega))) | (refine v_cond rfl ?_ ?_ <;> (intro hb; (try simp only [decide_eq_true_eq, decide_eq_false_iff_not, Bool.not_eq_true', Bool.not_eq_false', ne_eq, Decidable.not_not, Option.isNone_iff_eq_none, not_true_eq_false, not_false_eq_true] at hb); try (exfalso; omega))) | fail)
    all_goals exact ⟨L, sei _ _ _, hno (fun e => hbad ⟨e.len, e.lo, e.hi⟩) rfl, rfl⟩
theorem check6_vc (w0 : World) (L : List Asn) (a : Option Addr) (c : Nat) (ns : List Nd) (r : Int) {n : Nat} (hn : n = ns.length) (hok : NsOk ns) [hr : RdC w0 L a (ndc ns)] :
    VC Tryd.prog w0 31 [.agg #[.slice a n c, .int .i64 r]] L fun v L' => v = .int .i64 (if MayP ns r then 0 else 8) ∧ L' = L := by
  subst hn
  refine vc_ent ?_
  refine vc_in rfl rfl ?_
  repeat' (first | (refine go1 ?_; intros) | (refine vl_caseG rfl rfl rfl rfl ?_ ?_ <;> (intro hb; (try simp only [decide_eq_true_eq, decide_eq_false_iff_not, Bool.not_eq_true', Bool.not_eq_false', ne_eq, Decidable.not_not, Option.isNone_iff_eq_none, not_true_eq_false, not_false_eq_true] at hb); try (exfalso; omega))) | (refine v_cond rfl ?_ ?_ <;> (intro hb; (try simp only [decide_eq_true_eq, decide_eq_false_iff_not, Bool.not_eq_true', Bool.not_eq_false', ne_eq, Decidable.not_not, Option.isNone_iff_eq_none, not_true_eq_false, not_false_eq_true] at hb); try (exfalso; omega))) | fail)
  refine vl_o rfl (vo_call rfl rfl ?_)
  refine vc_mono (may6_vc w0 _ a c ns r rfl hok) ?_
  rintro v L' ⟨rfl, rfl⟩
  by_cases h1 : MayP ns r
  · rw [decide_eq_true h1, if_pos h1]
    repeat' (first | (refine go1 ?_; intros) | (refine vl_caseG rfl rfl rfl rfl ?_ ?_ <;> (intro hb; (try simp only [decide_eq_true_eq, decide_eq_false_iff_not, Bool.not_eq_true', Bool.not_eq_false', ne_eq, Decidable.not_not, Option.isNone_iff_eq_none, not_true_eq_false, not_false_eq_true] at hb); try (exfalso; omega))) | (refine v_cond rfl ?_ ?_ <;> (intro hb; (try simp only [decide_eq_true_eq, decide_eq_false_iff_not, Bool.not_eq_true', Bool.not_eq_false', ne_eq, Decidable.not_not, Option.isNone_iff_eq_none, not_true_eq_false, not_false_eq_true] at hb); try (exfalso; omega))) | fail)
    exact ⟨L, sei _ _ _, rfl, rfl⟩
  · rw [decide_eq_false h1, if_neg h1]
    repeat' (first | (refine go1 ?_; intros) | (refine vl_caseG rfl rfl rfl rfl ?_ ?_ <;> (intro hb; (try simp only [decide_eq_true_eq, decide_eq_false_iff_not, Bool.not_eq_true', Bool.not_eq_false', ne_eq, Decidable.not_not, Option.isNone_iff_eq_none, not_true_eq_false, not_false_eq_true] at hb); try (exfalso; omega))) | (refine v_cond rfl ?_ ?_ <;> (intro hb; (try simp only [decide_eq_true_eq, decide_eq_false_iff_not, Bool.not_eq_true', Bool.not_eq_false', ne_eq, Decidable.not_not, Option.isNone_iff_eq_none, not_true_eq_false, not_false_eq_true] at hb); try (exfalso; omega))) | fail)
    exact ⟨L, sei _ _ _, rfl, rfl⟩
end Go.Proofs.YtmaimkbppnpbnaaDoor
namespace Go.Proofs.YtmaimkbppnpbnaaDoor
open Go Go.RowKit
set_option linter.unusedVariables false
set_option linter.unusedSimpArgs false
open Classical

set_option maxRecDepth 100000 in
theorem great6_vc (w0 : World) (L : List Asn) (a : Option Addr) (c : Nat) (ns : List Nd) (r : Int) (m : Nat) {n : Nat} (hn : n = ns.length) (hm : m ≤ 1000000) (hk : ∀ p ∈ ns, p.key.length = 32) (hl : ns.length ≤ 9223372036854775807) [hr : RdC w0 L a (ndc ns)] :
    VC Tryd.prog w0 14 [.agg #[.slice a n c, .int .i64 r], .int .i64 m] L fun v L' => ∃ b, v = .bool b ∧ (b = false → ns.length ≤ m ∧ ∀ x ∈ ns, x.v.length ≤ 100) ∧ L' = L := by
  subst hn
  have hw : Wide Nd.cells 36 ns := fun p hp => Nd.len (hk p hp)
  refine vc_ent ?_
  refine vc_in rfl rfl ?_
  repeat' (first | (refine go1 ?_; intros) | (refine vl_caseG rfl rfl rfl rfl ?_ ?_ <;> (intro hb; (try simp only [decide_eq_true_eq, decide_eq_false_iff_not, Bool.not_eq_true', Bool.not_eq_false', ne_eq, Decidable.not_not, Option.isNone_iff_eq_none, not_true_eq_false, not_false_eq_true] at hb); try (exfalso; omega))) | (refine v_cond rfl ?_ ?_ <;> (intro hb; (try simp only [decide_eq_true_eq, decide_eq_false_iff_not, Bool.not_eq_true', Bool.not_eq_false', ne_eq, Decidable.not_not, Option.isNone_iff_eq_none, not_true_eq_false, not_false_eq_true] at hb); try (exfalso; omega))) | fail)
  refine v_loopS Nat [1, 2] rfl (fun i => [(5, .int .i64 i)]) (fun i => i ≤ ns.length ∧ i ≤ m + 1 ∧ ∀ j (hj : j < ns.length), j < i → ns[j].v.length ≤ 100) (fun i => ns.length - i) 0 ⟨Nat.zero_le _, Nat.zero_le _, by omega⟩ (by (repeat' (first | exact Sub.nil _ | refine Sub.cons rfl rfl ?_ | refine Sub.cons rfl ?_ ?_))) (fun i ⟨hi, him, hv⟩ => ?_)
  by_cases hlt : i < ns.length
  · by_cases hle : i ≤ m
    · have e2 : (ndc ns)[i * 36 + 33]? = some (.slice ns[i].a ns[i].v.length ns[i].c) := by
        rw [hw.cell i hlt 33 (by decide)]
        exact Nd.f2 (hk _ (List.getElem_mem hlt))
      have hpos : 0 < (ndc ns).length := hw.pos (by decide) (by omega)
      repeat' (first | (refine go1 ?_; intros) | (refine vl_caseG rfl rfl rfl rfl ?_ ?_ <;> (intro hb; (try simp only [decide_eq_true_eq, decide_eq_false_iff_not, Bool.not_eq_true', Bool.not_eq_false', ne_eq, Decidable.not_not, Option.isNone_iff_eq_none, not_true_eq_false, not_false_eq_true] at hb); try (exfalso; omega))) | (refine v_cond rfl ?_ ?_ <;> (intro hb; (try simp only [decide_eq_true_eq, decide_eq_false_iff_not, Bool.not_eq_true', Bool.not_eq_false', ne_eq, Decidable.not_not, Option.isNone_iff_eq_none, not_true_eq_false, not_false_eq_true] at hb); try (exfalso; omega))) | fail)
      · exact ⟨L, sei _ _ _, true, rfl, by simp, rfl⟩
      · refine ⟨rfl, i + 1, ⟨by omega, by omega, fun j hj hji => ?_⟩, by omega, by (repeat' (first | exact Sub.nil _ | refine Sub.cons rfl rfl ?_ | refine Sub.cons rfl ?_ ?_)), Ent.refl _ _⟩
        by_cases e : j = i
        · subst e; omega
        · exact hv j hj (by omega)
    · repeat' (first | (refine go1 ?_; intros) | (refine vl_caseG rfl rfl rfl rfl ?_ ?_ <;> (intro hb; (try simp only [decide_eq_true_eq, decide_eq_false_iff_not, Bool.not_eq_true', Bool.not_eq_false', ne_eq, Decidable.not_not, Option.isNone_iff_eq_none, not_true_eq_false, not_false_eq_true] at hb); try (exfalso; omega))) | (refine v_cond rfl ?_ ?_ <;> (intro hb; (try simp only [decide_eq_true_eq, decide_eq_false_iff_not, Bool.not_eq_true', Bool.not_eq_false', ne_eq, Decidable.not_not, Option.isNone_iff_eq_none, not_true_eq_false, not_false_eq_true] at hb); try (exfalso; omega))) | fail)
      exact ⟨L, sei _ _ _, true, by rw [decide_eq_true (by omega)], by simp, rfl⟩
  · repeat' (first | (refine go1 ?_; intros) | (refine vl_caseG rfl rfl rfl rfl ?_ ?_ <;> (intro hb; (try simp only [decide_eq_true_eq, decide_eq_false_iff_not, Bool.not_eq_true', Bool.not_eq_false', ne_eq, Decidable.not_not, Option.isNone_iff_eq_none, not_true_eq_false, not_false_eq_true] at hb); try (exfalso; omega))) | (refine v_cond rfl ?_ ?_ <;> (intro hb; (try simp only [decide_eq_true_eq, decide_eq_false_iff_not, Bool.not_eq_true', Bool.not_eq_false', ne_eq, Decidable.not_not, Option.isNone_iff_eq_none, not_true_eq_false, not_false_eq_true] at hb); try (exfalso; omega))) | fail)
    refine ⟨L, sei _ _ _, _, rfl, fun e => ⟨?_, fun x hx => ?_⟩, rfl⟩
    · have := of_decide_eq_false e
      omega
    · obtain ⟨j, hj, rfl⟩ := List.getElem_of_mem hx
      exact hv j hj (by omega)

/-- A new tree: all of it the call's own. -/
def RTr (w0 : World) (L : List Asn) (ns : List Nd) (r : Int) (v : Value) (L' : List Asn) : Prop := ∃ a c ms, v = .agg #[.slice a ms.length c, .int .i64 r] ∧ pls ms = pls ns ∧ L' = ownNs a c ms :: vnA ms :: L
theorem ownNs_snoc (a : Option Addr) (c : Nat) (ns : List Nd) (p : Nd) : ownNs a c (ns ++ [p]) = own 31 36 a (ns.length + 1) c (ndc ns ++ p.cells) := by
  unfold ownNs ndc
  rw [flat_snoc, List.length_append]
  rfl
theorem se_ns_nil (L : List Asn) : SE L (ownNs none 0 [] :: vnA [] :: L) := (se_psA_nil L).trans (se_own_nil 31 36 _)
theorem se_ns_snoc (ns : List Nd) (p : Nd) (L : List Asn) : SE (ownB p.a p.c p.v :: vnA ns :: L) (vnA (ns ++ [p]) :: L) := by
  have := se_psA_snoc (ns.map Nd.pb) L p.a p.c p.v
  rw [show ns.map Nd.pb ++ [⟨p.a, p.c, p.v⟩] = (ns ++ [p]).map Nd.pb by simp [Nd.pb]] at this
  exact this
/-- A value elsewhere. -/
def Nd.to (x : Nd) (a : Option Addr) (c : Nat) : Nd := { x with a := a, c := c }
theorem Nd.to_cells (x : Nd) (a : Option Addr) (c : Nat) (hk : x.key.length = 32) : splice x.cells (0 + 33) [.slice a x.v.length c] = (x.to a c).cells := by
  have := splice_mid (.bool x.leaf :: bvs x.key) [.slice x.a x.v.length x.c] [.int .i64 x.left, .int .i64 x.right] [.slice a x.v.length c] 33 (by simp [hk]) rfl
  simpa [Nd.cells, Nd.to] using this
set_option maxRecDepth 100000 in
set_option maxHeartbeats 1000000 in
theorem twin6_vc (w0 : World) (L : List Asn) (a : Option Addr) (c : Nat) (ns : List Nd) (r : Int) {n : Nat} (hn : n = ns.length) (hok : NsOk ns) [hr : RdC w0 L a (ndc ns)] [hv : RdNs w0 L ns] :
    VC Tryd.prog w0 15 [.agg #[.slice a n c, .int .i64 r]] L (RTr w0 L ns r) := by
  subst hn
  have hlen := hok.len
  refine vc_ent ?_
  refine vc_in rfl rfl ?_
  repeat' (first | (refine goB ?_; intros) | (refine vl_caseG rfl rfl rfl rfl ?_ ?_ <;> (intro hb; (try simp only [decide_eq_true_eq, decide_eq_false_iff_not, Bool.not_eq_true', Bool.not_eq_false', ne_eq, Decidable.not_not, Option.isNone_iff_eq_none, not_true_eq_false, not_false_eq_true] at hb); try (exfalso; omega))) | (refine v_cond rfl ?_ ?_ <;> (intro hb; (try simp only [decide_eq_true_eq, decide_eq_false_iff_not, Bool.not_eq_true', Bool.not_eq_false', ne_eq, Decidable.not_not, Option.isNone_iff_eq_none, not_true_eq_false, not_false_eq_true] at hb); try (exfalso; omega))) | fail)
  refine vl_id ?_
  refine vl_q rfl rfl rfl rfl (vq_buildP (cs := [.slice none 0 0, .int .i64 r]) rfl (by simp [okS, Value.cells]) rfl) ?_
  repeat' (first | (refine go1 ?_; intros) | (refine vl_caseG rfl rfl rfl rfl ?_ ?_ <;> (intro hb; (try simp only [decide_eq_true_eq, decide_eq_false_iff_not, Bool.not_eq_true', Bool.not_eq_false', ne_eq, Decidable.not_not, Option.isNone_iff_eq_none, not_true_eq_false, not_false_eq_true] at hb); try (exfalso; omega))) | (refine v_cond rfl ?_ ?_ <;> (intro hb; (try simp only [decide_eq_true_eq, decide_eq_false_iff_not, Bool.not_eq_true', Bool.not_eq_false', ne_eq, Decidable.not_not, Option.isNone_iff_eq_none, not_true_eq_false, not_false_eq_true] at hb); try (exfalso; omega))) | fail)
  rename_i g1 g2 g3
  refine v_loopF (List Nd × Option Addr × Nat) [1, 2, 3] rfl (fun x => [(4, .int .i64 x.1.length)]) (fun _ x => blk g3 24 [.slice x.2.1 x.1.length x.2.2, .int .i64 r] :: ownNs x.2.1 x.2.2 x.1 :: vnA x.1 :: blk g2 24 [.slice none 0 0, .int .i64 0] :: blk g1 24 [.slice a ns.length c, .int .i64 r] :: L) (fun x => x.1.length ≤ ns.length ∧ pls x.1 = (pls ns).take x.1.length) (fun x => ns.length - x.1.length) ([], none, 0) ⟨Nat.zero_le _, by simp⟩ (by (repeat' (first | exact Sub.nil _ | refine Sub.cons rfl rfl ?_ | refine Sub.cons rfl ?_ ?_))) ?_ ?_
  · exact (SE.cons _ (se_ns_nil _)).ent w0
  rintro ⟨ms, a', c'⟩ ⟨hi, hp⟩
  dsimp only at hi hp ⊢
  obtain ⟨i, hni⟩ : ∃ i, i = ms.length := ⟨_, rfl⟩
  rw [← hni] at hi hp
  have okm : NsOk ms := (hok.sub (ms := ns.take i) (fun p hp => List.mem_of_mem_take hp) (by simp; omega)).of_pls (by rw [hp, ← List.map_take])
  have hwl := okm.wide.len
  rw [show ownNs a' c' ms = own 31 36 a' i c' (ndc ms) by rw [hni], ← hni]
  by_cases hlt : i < ns.length
  · have he := hok.e i hlt
    have hpos := hok.pos i hlt
    have hk := hok.k32at i hlt
    have hvl := hok.vlat i hlt
    haveI := hv.at i hlt
    have hpt : (pls ns).take (i + 1) = (pls ns).take i ++ [ns[i].pl] := by rw [List.take_succ_eq_append_getElem (by simpa using hlt), List.getElem_map]
    have f2 := Nd.f2 hk
    have hto := fun a2 c2 => Nd.to_cells ns[i] a2 c2 hk
    have htl := fun a2 c2 => Nd.len (x := ns[i].to a2 c2) hk
    have hc := Nd.len hk
    haveI hoc : OC ns[i].cells := oc_nd _
    haveI hoc2 : ∀ a2 c2, OC (ns[i].to a2 c2).cells := fun _ _ => oc_nd _
    have hpb : ∀ a2 c2, (ns[i].to a2 c2).pl = ns[i].pl := fun _ _ => rfl
    generalize ns[i] = x at *
    generalize x.cells = cs at *
    repeat' (first | (refine go1 ?_; intros) | (refine vl_caseG rfl rfl rfl rfl ?_ ?_ <;> (intro hb; (try simp only [decide_eq_true_eq, decide_eq_false_iff_not, Bool.not_eq_true', Bool.not_eq_false', ne_eq, Decidable.not_not, Option.isNone_iff_eq_none, not_true_eq_false, not_false_eq_true] at hb); try (exfalso; omega))) | (refine v_cond rfl ?_ ?_ <;> (intro hb; (try simp only [decide_eq_true_eq, decide_eq_false_iff_not, Bool.not_eq_true', Bool.not_eq_false', ne_eq, Decidable.not_not, Option.isNone_iff_eq_none, not_true_eq_false, not_false_eq_true] at hb); try (exfalso; omega))) | fail)
    refine vl_o rfl (vo_call rfl rfl ?_)
    refine vc_mono (twin_vc w0 _ x.a x.c x.v rfl (by omega)) ?_
    rintro v L' ⟨a2, c2, _, rfl, rfl⟩
    have hto2 := hto a2 c2
    have htl2 := htl a2 c2
    haveI hoc3 := hoc2 a2 c2
    repeat' (first | (refine go1 ?_; intros) | (refine vl_caseG rfl rfl rfl rfl ?_ ?_ <;> (intro hb; (try simp only [decide_eq_true_eq, decide_eq_false_iff_not, Bool.not_eq_true', Bool.not_eq_false', ne_eq, Decidable.not_not, Option.isNone_iff_eq_none, not_true_eq_false, not_false_eq_true] at hb); try (exfalso; omega))) | (refine v_cond rfl ?_ ?_ <;> (intro hb; (try simp only [decide_eq_true_eq, decide_eq_false_iff_not, Bool.not_eq_true', Bool.not_eq_false', ne_eq, Decidable.not_not, Option.isNone_iff_eq_none, not_true_eq_false, not_false_eq_true] at hb); try (exfalso; omega))) | fail)
    rw [hto2]
    repeat' (first | (refine go1 ?_; intros) | (refine vl_caseG rfl rfl rfl rfl ?_ ?_ <;> (intro hb; (try simp only [decide_eq_true_eq, decide_eq_false_iff_not, Bool.not_eq_true', Bool.not_eq_false', ne_eq, Decidable.not_not, Option.isNone_iff_eq_none, not_true_eq_false, not_false_eq_true] at hb); try (exfalso; omega))) | (refine v_cond rfl ?_ ?_ <;> (intro hb; (try simp only [decide_eq_true_eq, decide_eq_false_iff_not, Bool.not_eq_true', Bool.not_eq_false', ne_eq, Decidable.not_not, Option.isNone_iff_eq_none, not_true_eq_false, not_false_eq_true] at hb); try (exfalso; omega))) | fail)
    rename_i a3 c3 _ _
    refine ⟨rfl, (ms ++ [x.to a2 c2], a3, c3), ⟨by simp; omega, ?_⟩, by simp; omega, ?_, ?_⟩
    · simp only [List.map_append, List.map_cons, List.map_nil, List.length_append, List.length_cons, List.length_nil, ← hni, Nat.zero_add]
      rw [show List.map Nd.pl ms = pls ms from rfl, hp, hpt, hpb]
    · simp only [List.length_append, List.length_cons, List.length_nil, ← hni, Nat.zero_add]
      (repeat' (first | exact Sub.nil _ | refine Sub.cons rfl rfl ?_ | refine Sub.cons rfl ?_ ?_))
    · rw [ownNs_snoc, ← hni]
      simp only [List.append_nil, List.length_append, List.length_cons, List.length_nil, Nat.zero_add, ← hni]
      rw [show splice [Value.slice a' i c', Value.int IntKind.i64 r] (0 + 0) [Value.slice a3 (i + 1) c3] = [Value.slice a3 (i + 1) c3, .int .i64 r] from rfl]
      refine (sei w0 _ (ownB a2 c2 x.v :: vnA ms :: blk g3 24 [.slice a3 (i + 1) c3, .int .i64 r] :: own 31 36 a3 (i + 1) c3 (ndc ms ++ (x.to a2 c2).cells) :: blk g2 24 [.slice none 0 0, .int .i64 0] :: blk g1 24 [.slice a ns.length c, .int .i64 r] :: L)).trans (((se_ns_snoc ms (x.to a2 c2) _).ent w0).trans (sei _ _ _))
  · have hin : i = ns.length := by omega
    repeat' (first | (refine go1 ?_; intros) | (refine vl_caseG rfl rfl rfl rfl ?_ ?_ <;> (intro hb; (try simp only [decide_eq_true_eq, decide_eq_false_iff_not, Bool.not_eq_true', Bool.not_eq_false', ne_eq, Decidable.not_not, Option.isNone_iff_eq_none, not_true_eq_false, not_false_eq_true] at hb); try (exfalso; omega))) | (refine v_cond rfl ?_ ?_ <;> (intro hb; (try simp only [decide_eq_true_eq, decide_eq_false_iff_not, Bool.not_eq_true', Bool.not_eq_false', ne_eq, Decidable.not_not, Option.isNone_iff_eq_none, not_true_eq_false, not_false_eq_true] at hb); try (exfalso; omega))) | fail)
    refine ⟨_, ?_, a', c', ms, by rw [hni], by rw [hp, List.take_of_length_le (by simp; omega)], rfl⟩
    rw [show ownNs a' c' ms = own 31 36 a' i c' (ndc ms) by rw [hni]]
    exact sei _ _ _

theorem cloneNs_vc (w0 : World) (L : List Asn) (a : Option Addr) (cap : Nat) (ns : List Nd) {n : Nat} (hn : n = ns.length) (hok : NsOk ns) [hr : RdC w0 L a (ndc ns)] :
    VC Tryd.prog w0 77 [.slice a n cap] L fun v L' => ∃ a' c', v = .slice a' ns.length c' ∧ L' = ownNs a' c' ns :: L := by
  subst hn
  have hlen := hok.len
  have hfx : (ndc ns).length = ns.length * 36 := hok.wide.len
  refine vc_know (φ := a = none → ns.length = 0) (fun w hs e => ?_) (fun hnil => ?_)
  · rcases hr.out w hs with h | ⟨_, _, e', _⟩
    · rw [h] at hfx
      simp only [List.length_nil] at hfx
      omega
    · rw [e] at e'; cases e'
  refine vc_ent ?_
  refine vc_in rfl rfl ?_
  repeat' (first | (refine go1 ?_; intros) | (refine vl_caseG rfl rfl rfl rfl ?_ ?_ <;> (intro hb; (try simp only [decide_eq_true_eq, decide_eq_false_iff_not, Bool.not_eq_true', Bool.not_eq_false', ne_eq, Decidable.not_not, Option.isNone_iff_eq_none, not_true_eq_false, not_false_eq_true] at hb); try (exfalso; omega))) | (refine v_cond rfl ?_ ?_ <;> (intro hb; (try simp only [decide_eq_true_eq, decide_eq_false_iff_not, Bool.not_eq_true', Bool.not_eq_false', ne_eq, Decidable.not_not, Option.isNone_iff_eq_none, not_true_eq_false, not_false_eq_true] at hb); try (exfalso; omega))) | fail)
  · have h0 := hnil hb
    obtain rfl : ns = [] := List.eq_nil_of_length_eq_zero h0
    exact ⟨_, (se_own_nil _ 36 _).ent w0, none, 0, rfl, rfl⟩
  · rename_i g a' c' _ _
    refine ⟨_, Ent.refl _ _, a', c', ?_, ?_⟩
    · rw [Nat.zero_add]
    · rw [Nat.zero_add]; rfl

set_option maxRecDepth 100000 in
set_option maxHeartbeats 1000000 in
theorem ttwin_vc (w0 : World) (L : List Asn) (a : Option Addr) (cap : Nat) (ns : List Nd) (r : Int) {n : Nat} (hn : n = ns.length) (hok : NsOk ns) [hr : RdC w0 L a (ndc ns)] [hv : RdNs w0 L ns] :
    VC Tryd.prog w0 33 [.agg #[.slice a n cap, .int .i64 r]] L (RTr w0 L ns r) := by
  subst hn
  have hlen := hok.len
  refine vc_ent ?_
  refine vc_in rfl rfl ?_
  repeat' (first | (refine go1 ?_; intros) | (refine vl_caseG rfl rfl rfl rfl ?_ ?_ <;> (intro hb; (try simp only [decide_eq_true_eq, decide_eq_false_iff_not, Bool.not_eq_true', Bool.not_eq_false', ne_eq, Decidable.not_not, Option.isNone_iff_eq_none, not_true_eq_false, not_false_eq_true] at hb); try (exfalso; omega))) | (refine v_cond rfl ?_ ?_ <;> (intro hb; (try simp only [decide_eq_true_eq, decide_eq_false_iff_not, Bool.not_eq_true', Bool.not_eq_false', ne_eq, Decidable.not_not, Option.isNone_iff_eq_none, not_true_eq_false, not_false_eq_true] at hb); try (exfalso; omega))) | fail)
  refine vl_o rfl (vo_call rfl rfl ?_)
  refine vc_mono (cloneNs_vc w0 _ a cap ns rfl hok) ?_
  rintro v L' ⟨a', c', rfl, rfl⟩
  repeat' (first | (refine go1 ?_; intros) | (refine vl_caseG rfl rfl rfl rfl ?_ ?_ <;> (intro hb; (try simp only [decide_eq_true_eq, decide_eq_false_iff_not, Bool.not_eq_true', Bool.not_eq_false', ne_eq, Decidable.not_not, Option.isNone_iff_eq_none, not_true_eq_false, not_false_eq_true] at hb); try (exfalso; omega))) | (refine v_cond rfl ?_ ?_ <;> (intro hb; (try simp only [decide_eq_true_eq, decide_eq_false_iff_not, Bool.not_eq_true', Bool.not_eq_false', ne_eq, Decidable.not_not, Option.isNone_iff_eq_none, not_true_eq_false, not_false_eq_true] at hb); try (exfalso; omega))) | fail)
  rename_i g1 g2
  refine v_loopF (List Nd) [1, 2, 10] rfl (fun ms => [(11, .int .i64 ms.length)]) (fun _ ms => own 31 36 a' ns.length c' (ndc (ms ++ ns.drop ms.length)) :: vnA ms :: blk g2 24 [.slice none 0 0, .int .i64 0] :: blk g1 24 [.slice a' ns.length c', .int .i64 r] :: L) (fun ms => ms.length ≤ ns.length ∧ pls ms = (pls ns).take ms.length) (fun ms => ns.length - ms.length) [] ⟨Nat.zero_le _, by simp⟩ (by (repeat' (first | exact Sub.nil _ | refine Sub.cons rfl rfl ?_ | refine Sub.cons rfl ?_ ?_))) ?_ ?_
  · exact (SE.cons _ (se_psA_nil _)).ent w0
  rintro ms ⟨hi, hp⟩
  obtain ⟨i, hni⟩ : ∃ i, i = ms.length := ⟨_, rfl⟩
  rw [← hni] at hi hp ⊢
  by_cases hlt : i < ns.length
  · obtain ⟨ws, hws⟩ : ∃ ws, ws = ms ++ ns.drop i := ⟨_, rfl⟩
    rw [← hws]
    have hkw : pls ws = pls ns := by
      rw [hws]
      simp only [List.map_append]
      rw [show ms.map Nd.pl = pls ms from rfl, hp, List.map_drop, List.take_append_drop]
    have okw := hok.of_pls hkw
    have hwl : ws.length = ns.length := pls_len hkw
    have hwi : ws[i]'(by omega) = ns[i] := by
      have : ws[i]? = ns[i]? := by rw [hws, List.getElem?_append_right (by omega), List.getElem?_drop, show i + (i - ms.length) = i by omega]
      rw [List.getElem?_eq_getElem (by omega), List.getElem?_eq_getElem hlt] at this
      exact Option.some.inj this
    have e1 := okw.e2 i (by omega)
    rw [hwi] at e1
    have hpos := okw.pos i (by omega)
    have hmul : i * 36 + 36 ≤ (ndc ws).length := okw.wide.mul i (by omega)
    have hvl := hok.vlat i hlt
    have hk := hok.k32at i hlt
    haveI := hv.at i hlt
    have hpt : (pls ns).take (i + 1) = (pls ns).take i ++ [ns[i].pl] := by rw [List.take_succ_eq_append_getElem (by simpa using hlt), List.getElem_map]
    have hsp : ∀ a2 c2, splice (ndc ws) (i * 36 + 33) [.slice a2 ns[i].v.length c2] = ndc (ms ++ [ns[i].to a2 c2] ++ ns.drop (i + 1)) := by
      intro a2 c2
      have hset : ws.set i (ns[i].to a2 c2) = ms ++ [ns[i].to a2 c2] ++ ns.drop (i + 1) := by
        rw [hws, List.set_append_right _ _ (by omega), show i - ms.length = 0 by omega, List.drop_eq_getElem_cons hlt, List.set_cons_zero, List.append_assoc]
        rfl
      rw [← hset]
      refine okw.wide.splIn (x := ns[i].to a2 c2) i (by omega) 33 _ (by simp) ?_
      rw [hwi]
      have := Nd.to_cells ns[i] a2 c2 hk
      rwa [Nat.zero_add] at this
    have hpb : ∀ a2 c2, (ns[i].to a2 c2).pl = ns[i].pl := fun _ _ => rfl
    generalize ndc ws = cs at *
    repeat' (first | (refine go1 ?_; intros) | (refine vl_caseG rfl rfl rfl rfl ?_ ?_ <;> (intro hb; (try simp only [decide_eq_true_eq, decide_eq_false_iff_not, Bool.not_eq_true', Bool.not_eq_false', ne_eq, Decidable.not_not, Option.isNone_iff_eq_none, not_true_eq_false, not_false_eq_true] at hb); try (exfalso; omega))) | (refine v_cond rfl ?_ ?_ <;> (intro hb; (try simp only [decide_eq_true_eq, decide_eq_false_iff_not, Bool.not_eq_true', Bool.not_eq_false', ne_eq, Decidable.not_not, Option.isNone_iff_eq_none, not_true_eq_false, not_false_eq_true] at hb); try (exfalso; omega))) | fail)
    refine v_draw0 [12] (by kernel_rfl) ?_
    refine va_takeA 0 rfl rfl rfl rfl ?_
    refine va_takeA 1 rfl rfl rfl rfl ?_
    refine va_takeA 2 rfl rfl rfl rfl ?_
    refine va_takeA 3 rfl rfl rfl rfl ?_
    refine va_takeA 4 rfl rfl rfl rfl ?_
    refine va_takeA 5 rfl rfl rfl rfl ?_
    refine va_takeA 6 rfl rfl rfl rfl ?_
    refine va_takeA 7 rfl rfl rfl rfl ?_
    refine va_takeA 8 rfl rfl rfl rfl ?_
    refine va_one 9 (by kernel_rfl) rfl rfl ?_
    first | refine vo_call rfl rfl ?_ | refine vo_callV rfl rfl rfl ?_
    refine vc_mono (clone_vc w0 _ ns[i].a ns[i].c ns[i].v rfl (by omega)) ?_
    rintro v L' ⟨a2, c2, _, rfl, rfl⟩
    refine ⟨.inr (sei _ _ _), ?_⟩
    refine va_takeA 10 rfl rfl rfl rfl ?_
    refine va_takeA 11 rfl rfl rfl rfl ?_
    refine va_one 12 (by kernel_rfl) rfl rfl ?_
    (first | (refine vo_box rfl rfl rfl ?_; intro _) | (refine vo_alloc rfl ?_; intro _) | (refine vo_isStore ?_; first | (refine vo_isPt0 rfl ?_; refine vo_stWA rfl rfl ?_) | (refine vo_isPt rfl ?_; refine vo_stBA rfl rfl ?_) | (refine vo_stO rfl rfl (by rfl) (by first | rfl | assumption) (by first | assumption | (simp; done) | (simp; omega) | omega) rfl ?_; skip)) | (refine vo_isCall ?_; first | (refine vo_isApp ?_; first | (refine vo_append0A rfl rfl rfl ?_; intro _ _ _ _) | (refine vo_appendA rfl rfl rfl ?_; intro _ _ _ _)) | (refine vo_isCopy ?_; refine vo_copyB rfl rfl rfl (by assumption) (by assumption) (by assumption) (by assumption) ?_) | refine vo_yield rfl rfl rfl rfl rfl ?_ | refine vo_callV rfl rfl rfl (vc_in rfl rfl ?_)) | refine vo_convRow rfl rfl ?_ | (refine vo_isBs ?_; refine vo_buildSlice rfl rfl rfl (by decide) (by repeat' (first | exact trivial | rfl | assumption | refine ⟨?_, ?_⟩ | (simp; done) | (simp; omega))) (by decide) rfl ?_; intro _) | (refine vo_buildSlice0 rfl ?_; intro _) | fail)
    refine ⟨.inl (by kernel_rfl), ?_⟩
    refine va_done (by kernel_rfl) ?_
    skip
    repeat' (first | (refine go1 ?_; intros) | (refine vl_caseG rfl rfl rfl rfl ?_ ?_ <;> (intro hb; (try simp only [decide_eq_true_eq, decide_eq_false_iff_not, Bool.not_eq_true', Bool.not_eq_false', ne_eq, Decidable.not_not, Option.isNone_iff_eq_none, not_true_eq_false, not_false_eq_true] at hb); try (exfalso; omega))) | (refine v_cond rfl ?_ ?_ <;> (intro hb; (try simp only [decide_eq_true_eq, decide_eq_false_iff_not, Bool.not_eq_true', Bool.not_eq_false', ne_eq, Decidable.not_not, Option.isNone_iff_eq_none, not_true_eq_false, not_false_eq_true] at hb); try (exfalso; omega))) | fail)
    rw [hsp]
    refine ⟨rfl, ms ++ [ns[i].to a2 c2], ⟨by simp; omega, ?_⟩, by simp; omega, ?_, ?_⟩
    · simp only [List.map_append, List.map_cons, List.map_nil, List.length_append, List.length_cons, List.length_nil, ← hni, Nat.zero_add]
      rw [show List.map Nd.pl ms = pls ms from rfl, hp, hpt, hpb]
    · simp only [List.length_append, List.length_cons, List.length_nil, ← hni, Nat.zero_add]
      (repeat' (first | exact Sub.nil _ | refine Sub.cons rfl rfl ?_ | refine Sub.cons rfl ?_ ?_))
    · simp only [List.length_append, List.length_cons, List.length_nil, ← hni, Nat.zero_add]
      exact ((se_swap _ _ _).trans (SE.cons _ (se_ns_snoc ms (ns[i].to a2 c2) _))).ent w0
  · have hin : i = ns.length := by omega
    rw [List.drop_eq_nil_of_le (by omega), List.append_nil]
    repeat' (first | (refine go1 ?_; intros) | (refine vl_caseG rfl rfl rfl rfl ?_ ?_ <;> (intro hb; (try simp only [decide_eq_true_eq, decide_eq_false_iff_not, Bool.not_eq_true', Bool.not_eq_false', ne_eq, Decidable.not_not, Option.isNone_iff_eq_none, not_true_eq_false, not_false_eq_true] at hb); try (exfalso; omega))) | (refine v_cond rfl ?_ ?_ <;> (intro hb; (try simp only [decide_eq_true_eq, decide_eq_false_iff_not, Bool.not_eq_true', Bool.not_eq_false', ne_eq, Decidable.not_not, Option.isNone_iff_eq_none, not_true_eq_false, not_false_eq_true] at hb); try (exfalso; omega))) | fail)
    refine ⟨_, ?_, a', c', ms, by rw [← hni, hin], by rw [hp, List.take_of_length_le (by simp; omega)], rfl⟩
    unfold ownNs
    rw [← hni, hin]
    exact sei _ _ _
end Go.Proofs.YtmaimkbppnpbnaaDoor
namespace Go.Proofs.YtmaimkbppnpbnaaDoor
open Go Go.RowKit
set_option linter.unusedVariables false
set_option linter.unusedSimpArgs false
open Classical

theorem pl_eq {x y : Nd} : x.pl = y.pl ↔ x.leaf = y.leaf ∧ x.key = y.key ∧ x.v = y.v ∧ x.left = y.left ∧ x.right = y.right := by
  unfold Nd.pl
  simp only [Nd.mk.injEq, true_and]
theorem pls_step {ms ns : List Nd} {i : Nat} (hm : i < ms.length) (hn : i < ns.length) (he : (pls ms).take i = (pls ns).take i) (h : ms[i].pl = ns[i].pl) : (pls ms).take (i + 1) = (pls ns).take (i + 1) := by
  rw [List.take_succ_eq_append_getElem (by simpa using hm), List.take_succ_eq_append_getElem (by simpa using hn), he, List.getElem_map, List.getElem_map, h]
theorem pls_ne {ms ns : List Nd} {i : Nat} (hm : i < ms.length) (hn : i < ns.length) (h : ¬ ms[i].pl = ns[i].pl) : ¬ pls ms = pls ns := fun e => h (pls_get e hm hn)
theorem pls_nel {ms ns : List Nd} (h : ¬ ms.length = ns.length) : ¬ pls ms = pls ns := fun e => h (pls_len e)

set_option maxRecDepth 100000 in
set_option maxHeartbeats 1000000 in
theorem same6_vc (w0 : World) (L : List Asn) (a : Option Addr) (c : Nat) (ns : List Nd) (r : Int) (b : Option Addr) (cb : Nat) (ms : List Nd) (s : Int) {n m : Nat} (hn : n = ns.length) (hm : m = ms.length) (hok : NsOk ns) (hom : NsOk ms) [hr : RdC w0 L a (ndc ns)] [hv : RdNs w0 L ns] [hr2 : RdC w0 L b (ndc ms)] [hv2 : RdNs w0 L ms] :
    VC Tryd.prog w0 20 [.agg #[.slice a n c, .int .i64 r], .agg #[.slice b m cb, .int .i64 s]] L fun v L' => v = .bool (decide (r = s ∧ pls ns = pls ms)) ∧ L' = L := by
  subst hn
  subst hm
  have hlen := hok.len
  have hlen2 := hom.len
  have hno : ∀ {v : Value}, ¬ (r = s ∧ pls ns = pls ms) → v = .bool false → v = .bool (decide (r = s ∧ pls ns = pls ms)) := fun h1 h2 => by rw [h2, decide_eq_false h1]
  refine vc_ent ?_
  refine vc_in rfl rfl ?_
  by_cases hrs : r = s
  · subst hrs
    by_cases hl : ns.length = ms.length
    · repeat' (first | (refine goS ?_; intros) | (refine vl_caseG rfl rfl rfl rfl ?_ ?_ <;> (intro hb; (try simp only [decide_eq_true_eq, decide_eq_false_iff_not, Bool.not_eq_true', Bool.not_eq_false', ne_eq, Decidable.not_not, Option.isNone_iff_eq_none, not_true_eq_false, not_false_eq_true] at hb); try (exfalso; omega))) | (refine v_cond rfl ?_ ?_ <;> (intro hb; (try simp only [decide_eq_true_eq, decide_eq_false_iff_not, Bool.not_eq_true', Bool.not_eq_false', ne_eq, Decidable.not_not, Option.isNone_iff_eq_none, not_true_eq_false, not_false_eq_true] at hb); try (exfalso; omega))) | fail)
      all_goals first | exact absurd hl (by omega) | skip
      rename_i ga gb
      refine v_loopS Nat [2, 3] rfl (fun i => [(5, .int .i64 i)]) (fun i => i ≤ ns.length ∧ (pls ns).take i = (pls ms).take i) (fun i => ns.length - i) 0 ⟨Nat.zero_le _, by simp⟩ (by (repeat' (first | exact Sub.nil _ | refine Sub.cons rfl rfl ?_ | refine Sub.cons rfl ?_ ?_))) (fun i ⟨hi, he⟩ => ?_)
      by_cases hlt : i < ns.length
      · have hlt2 : i < ms.length := by omega
        have e := hok.e i hlt
        have hpos := hok.pos i hlt
        have hk := hok.k32at i hlt
        have e2 := hom.e i hlt2
        have hpos2 := hom.pos i hlt2
        have hk2 := hom.k32at i hlt2
        haveI := hv.at i hlt
        haveI := hv2.at i hlt2
        have hstep := pls_step hlt hlt2 he
        have hne := pls_ne hlt hlt2
        have hvl := hok.vlat i hlt
        have hvl2 := hom.vlat i hlt2
        generalize ns[i] = x at *
        generalize ms[i] = y at *
        have f0 := Nd.f0 (x := x)
        have f1 := Nd.f1 hk
        have f2 := Nd.f2 hk
        have f3 := Nd.f3 hk
        have f4 := Nd.f4 hk
        have hc := Nd.len hk
        haveI hoc : OC x.cells := oc_nd _
        have g0 := Nd.f0 (x := y)
        have g1 := Nd.f1 hk2
        have g2 := Nd.f2 hk2
        have g3 := Nd.f3 hk2
        have g4 := Nd.f4 hk2
        have hd := Nd.len hk2
        haveI hod : OC y.cells := oc_nd _
        have hpe := pl_eq (x := x) (y := y)
        generalize x.cells = cs at *
        generalize y.cells = ds at *
        repeat' (first | (refine go1 ?_; intros) | (refine vl_caseG rfl rfl rfl rfl ?_ ?_ <;> (intro hb; (try simp only [decide_eq_true_eq, decide_eq_false_iff_not, Bool.not_eq_true', Bool.not_eq_false', ne_eq, Decidable.not_not, Option.isNone_iff_eq_none, not_true_eq_false, not_false_eq_true] at hb); try (exfalso; omega))) | (refine v_cond rfl ?_ ?_ <;> (intro hb; (try simp only [decide_eq_true_eq, decide_eq_false_iff_not, Bool.not_eq_true', Bool.not_eq_false', ne_eq, Decidable.not_not, Option.isNone_iff_eq_none, not_true_eq_false, not_false_eq_true] at hb); try (exfalso; omega))) | fail)
        refine v_cut (Nat × Nat) [2, 3, 5] rfl (fun z => [(6, .pointer (some ⟨z.1, 0, none⟩)), (7, .pointer (some ⟨z.2, 0, none⟩))]) (fun z => blk z.1 31 cs :: blk z.2 31 ds :: blk gb 24 [.slice b ms.length cb, .int .i64 r] :: blk ga 24 [.slice a ns.length c, .int .i64 r] :: L) ?_ ?_
        · refine v_id ?_
          refine v_draw0 [13] (by kernel_rfl) ?_
          refine va_takeA 0 rfl rfl rfl rfl ?_
          refine va_takeA 1 rfl rfl rfl rfl ?_
          refine va_takeA 2 rfl rfl rfl rfl ?_
          refine va_takeA 3 rfl rfl rfl rfl ?_
          refine va_takeA 4 rfl rfl rfl rfl ?_
          refine va_takeA 5 rfl rfl rfl rfl ?_
          refine va_takeA 6 rfl rfl rfl rfl ?_
          refine va_takeA 7 rfl rfl rfl rfl ?_
          refine va_takeA 8 rfl rfl rfl rfl ?_
          refine va_takeA 9 rfl rfl rfl rfl ?_
          refine va_two 10 11 (by kernel_rfl) rfl rfl rfl rfl ?_ ?_
          · (first | (refine vo_box rfl rfl rfl ?_; intro _) | (refine vo_alloc rfl ?_; intro _) | (refine vo_isStore ?_; first | (refine vo_isPt0 rfl ?_; refine vo_stWA rfl rfl ?_) | (refine vo_isPt rfl ?_; refine vo_stBA rfl rfl ?_) | (refine vo_stO rfl rfl (by rfl) (by first | rfl | assumption) (by first | assumption | (simp; done) | (simp; omega) | omega) rfl ?_; skip)) | (refine vo_isCall ?_; first | (refine vo_isApp ?_; first | (refine vo_append0A rfl rfl rfl ?_; intro _ _ _ _) | (refine vo_appendA rfl rfl rfl ?_; intro _ _ _ _)) | (refine vo_isCopy ?_; refine vo_copyB rfl rfl rfl (by assumption) (by assumption) (by assumption) (by assumption) ?_) | refine vo_yield rfl rfl rfl rfl rfl ?_ | refine vo_callV rfl rfl rfl (vc_in rfl rfl ?_)) | refine vo_convRow rfl rfl ?_ | (refine vo_isBs ?_; refine vo_buildSlice rfl rfl rfl (by decide) (by repeat' (first | exact trivial | rfl | assumption | refine ⟨?_, ?_⟩ | (simp; done) | (simp; omega))) (by decide) rfl ?_; intro _) | (refine vo_buildSlice0 rfl ?_; intro _) | fail)
            refine ⟨.inr (sei _ _ _), ?_⟩
            refine va_one 11 (by kernel_rfl) rfl rfl ?_
            (first | (refine vo_box rfl rfl rfl ?_; intro _) | (refine vo_alloc rfl ?_; intro _) | (refine vo_isStore ?_; first | (refine vo_isPt0 rfl ?_; refine vo_stWA rfl rfl ?_) | (refine vo_isPt rfl ?_; refine vo_stBA rfl rfl ?_) | (refine vo_stO rfl rfl (by rfl) (by first | rfl | assumption) (by first | assumption | (simp; done) | (simp; omega) | omega) rfl ?_; skip)) | (refine vo_isCall ?_; first | (refine vo_isApp ?_; first | (refine vo_append0A rfl rfl rfl ?_; intro _ _ _ _) | (refine vo_appendA rfl rfl rfl ?_; intro _ _ _ _)) | (refine vo_isCopy ?_; refine vo_copyB rfl rfl rfl (by assumption) (by assumption) (by assumption) (by assumption) ?_) | refine vo_yield rfl rfl rfl rfl rfl ?_ | refine vo_callV rfl rfl rfl (vc_in rfl rfl ?_)) | refine vo_convRow rfl rfl ?_ | (refine vo_isBs ?_; refine vo_buildSlice rfl rfl rfl (by decide) (by repeat' (first | exact trivial | rfl | assumption | refine ⟨?_, ?_⟩ | (simp; done) | (simp; omega))) (by decide) rfl ?_; intro _) | (refine vo_buildSlice0 rfl ?_; intro _) | fail)
            refine ⟨.inr (sei _ _ _), ?_⟩
            refine va_one 12 (by kernel_rfl) rfl rfl ?_
            (first | (refine vo_box rfl rfl rfl ?_; intro _) | (refine vo_alloc rfl ?_; intro _) | (refine vo_isStore ?_; first | (refine vo_isPt0 rfl ?_; refine vo_stWA rfl rfl ?_) | (refine vo_isPt rfl ?_; refine vo_stBA rfl rfl ?_) | (refine vo_stO rfl rfl (by rfl) (by first | rfl | assumption) (by first | assumption | (simp; done) | (simp; omega) | omega) rfl ?_; skip)) | (refine vo_isCall ?_; first | (refine vo_isApp ?_; first | (refine vo_append0A rfl rfl rfl ?_; intro _ _ _ _) | (refine vo_appendA rfl rfl rfl ?_; intro _ _ _ _)) | (refine vo_isCopy ?_; refine vo_copyB rfl rfl rfl (by assumption) (by assumption) (by assumption) (by assumption) ?_) | refine vo_yield rfl rfl rfl rfl rfl ?_ | refine vo_callV rfl rfl rfl (vc_in rfl rfl ?_)) | refine vo_convRow rfl rfl ?_ | (refine vo_isBs ?_; refine vo_buildSlice rfl rfl rfl (by decide) (by repeat' (first | exact trivial | rfl | assumption | refine ⟨?_, ?_⟩ | (simp; done) | (simp; omega))) (by decide) rfl ?_; intro _) | (refine vo_buildSlice0 rfl ?_; intro _) | fail)
            refine ⟨.inr (sei _ _ _), ?_⟩
            refine va_one 13 (by kernel_rfl) rfl rfl ?_
            (first | (refine vo_box rfl rfl rfl ?_; intro _) | (refine vo_alloc rfl ?_; intro _) | (refine vo_isStore ?_; first | (refine vo_isPt0 rfl ?_; refine vo_stWA rfl rfl ?_) | (refine vo_isPt rfl ?_; refine vo_stBA rfl rfl ?_) | (refine vo_stO rfl rfl (by rfl) (by first | rfl | assumption) (by first | assumption | (simp; done) | (simp; omega) | omega) rfl ?_; skip)) | (refine vo_isCall ?_; first | (refine vo_isApp ?_; first | (refine vo_append0A rfl rfl rfl ?_; intro _ _ _ _) | (refine vo_appendA rfl rfl rfl ?_; intro _ _ _ _)) | (refine vo_isCopy ?_; refine vo_copyB rfl rfl rfl (by assumption) (by assumption) (by assumption) (by assumption) ?_) | refine vo_yield rfl rfl rfl rfl rfl ?_ | refine vo_callV rfl rfl rfl (vc_in rfl rfl ?_)) | refine vo_convRow rfl rfl ?_ | (refine vo_isBs ?_; refine vo_buildSlice rfl rfl rfl (by decide) (by repeat' (first | exact trivial | rfl | assumption | refine ⟨?_, ?_⟩ | (simp; done) | (simp; omega))) (by decide) rfl ?_; intro _) | (refine vo_buildSlice0 rfl ?_; intro _) | fail)
            refine ⟨.inl (by kernel_rfl), ?_⟩
            refine va_done (by kernel_rfl) ?_
            refine ⟨rfl, (_, _), by (repeat' (first | exact Sub.nil _ | refine Sub.cons rfl rfl ?_ | refine Sub.cons rfl ?_ ?_)), ?_⟩
            exact sei _ _ _
          · (first | (refine vo_box rfl rfl rfl ?_; intro _) | (refine vo_alloc rfl ?_; intro _) | (refine vo_isStore ?_; first | (refine vo_isPt0 rfl ?_; refine vo_stWA rfl rfl ?_) | (refine vo_isPt rfl ?_; refine vo_stBA rfl rfl ?_) | (refine vo_stO rfl rfl (by rfl) (by first | rfl | assumption) (by first | assumption | (simp; done) | (simp; omega) | omega) rfl ?_; skip)) | (refine vo_isCall ?_; first | (refine vo_isApp ?_; first | (refine vo_append0A rfl rfl rfl ?_; intro _ _ _ _) | (refine vo_appendA rfl rfl rfl ?_; intro _ _ _ _)) | (refine vo_isCopy ?_; refine vo_copyB rfl rfl rfl (by assumption) (by assumption) (by assumption) (by assumption) ?_) | refine vo_yield rfl rfl rfl rfl rfl ?_ | refine vo_callV rfl rfl rfl (vc_in rfl rfl ?_)) | refine vo_convRow rfl rfl ?_ | (refine vo_isBs ?_; refine vo_buildSlice rfl rfl rfl (by decide) (by repeat' (first | exact trivial | rfl | assumption | refine ⟨?_, ?_⟩ | (simp; done) | (simp; omega))) (by decide) rfl ?_; intro _) | (refine vo_buildSlice0 rfl ?_; intro _) | fail)
            refine ⟨.inr (sei _ _ _), ?_⟩
            refine va_one 10 (by kernel_rfl) rfl rfl ?_
            (first | (refine vo_box rfl rfl rfl ?_; intro _) | (refine vo_alloc rfl ?_; intro _) | (refine vo_isStore ?_; first | (refine vo_isPt0 rfl ?_; refine vo_stWA rfl rfl ?_) | (refine vo_isPt rfl ?_; refine vo_stBA rfl rfl ?_) | (refine vo_stO rfl rfl (by rfl) (by first | rfl | assumption) (by first | assumption | (simp; done) | (simp; omega) | omega) rfl ?_; skip)) | (refine vo_isCall ?_; first | (refine vo_isApp ?_; first | (refine vo_append0A rfl rfl rfl ?_; intro _ _ _ _) | (refine vo_appendA rfl rfl rfl ?_; intro _ _ _ _)) | (refine vo_isCopy ?_; refine vo_copyB rfl rfl rfl (by assumption) (by assumption) (by assumption) (by assumption) ?_) | refine vo_yield rfl rfl rfl rfl rfl ?_ | refine vo_callV rfl rfl rfl (vc_in rfl rfl ?_)) | refine vo_convRow rfl rfl ?_ | (refine vo_isBs ?_; refine vo_buildSlice rfl rfl rfl (by decide) (by repeat' (first | exact trivial | rfl | assumption | refine ⟨?_, ?_⟩ | (simp; done) | (simp; omega))) (by decide) rfl ?_; intro _) | (refine vo_buildSlice0 rfl ?_; intro _) | fail)
            refine ⟨.inr (sei _ _ _), ?_⟩
            refine va_one 12 (by kernel_rfl) rfl rfl ?_
            (first | (refine vo_box rfl rfl rfl ?_; intro _) | (refine vo_alloc rfl ?_; intro _) | (refine vo_isStore ?_; first | (refine vo_isPt0 rfl ?_; refine vo_stWA rfl rfl ?_) | (refine vo_isPt rfl ?_; refine vo_stBA rfl rfl ?_) | (refine vo_stO rfl rfl (by rfl) (by first | rfl | assumption) (by first | assumption | (simp; done) | (simp; omega) | omega) rfl ?_; skip)) | (refine vo_isCall ?_; first | (refine vo_isApp ?_; first | (refine vo_append0A rfl rfl rfl ?_; intro _ _ _ _) | (refine vo_appendA rfl rfl rfl ?_; intro _ _ _ _)) | (refine vo_isCopy ?_; refine vo_copyB rfl rfl rfl (by assumption) (by assumption) (by assumption) (by assumption) ?_) | refine vo_yield rfl rfl rfl rfl rfl ?_ | refine vo_callV rfl rfl rfl (vc_in rfl rfl ?_)) | refine vo_convRow rfl rfl ?_ | (refine vo_isBs ?_; refine vo_buildSlice rfl rfl rfl (by decide) (by repeat' (first | exact trivial | rfl | assumption | refine ⟨?_, ?_⟩ | (simp; done) | (simp; omega))) (by decide) rfl ?_; intro _) | (refine vo_buildSlice0 rfl ?_; intro _) | fail)
            refine ⟨.inr (sei _ _ _), ?_⟩
            refine va_one 13 (by kernel_rfl) rfl rfl ?_
            (first | (refine vo_box rfl rfl rfl ?_; intro _) | (refine vo_alloc rfl ?_; intro _) | (refine vo_isStore ?_; first | (refine vo_isPt0 rfl ?_; refine vo_stWA rfl rfl ?_) | (refine vo_isPt rfl ?_; refine vo_stBA rfl rfl ?_) | (refine vo_stO rfl rfl (by rfl) (by first | rfl | assumption) (by first | assumption | (simp; done) | (simp; omega) | omega) rfl ?_; skip)) | (refine vo_isCall ?_; first | (refine vo_isApp ?_; first | (refine vo_append0A rfl rfl rfl ?_; intro _ _ _ _) | (refine vo_appendA rfl rfl rfl ?_; intro _ _ _ _)) | (refine vo_isCopy ?_; refine vo_copyB rfl rfl rfl (by assumption) (by assumption) (by assumption) (by assumption) ?_) | refine vo_yield rfl rfl rfl rfl rfl ?_ | refine vo_callV rfl rfl rfl (vc_in rfl rfl ?_)) | refine vo_convRow rfl rfl ?_ | (refine vo_isBs ?_; refine vo_buildSlice rfl rfl rfl (by decide) (by repeat' (first | exact trivial | rfl | assumption | refine ⟨?_, ?_⟩ | (simp; done) | (simp; omega))) (by decide) rfl ?_; intro _) | (refine vo_buildSlice0 rfl ?_; intro _) | fail)
            refine ⟨.inl (by kernel_rfl), ?_⟩
            refine va_done (by kernel_rfl) ?_
            refine ⟨rfl, (_, _), by (repeat' (first | exact Sub.nil _ | refine Sub.cons rfl rfl ?_ | refine Sub.cons rfl ?_ ?_)), ?_⟩
            exact sei _ _ _
        rintro ⟨z1, z2⟩
        dsimp only
        have hbad : ¬ (x.leaf = y.leaf ∧ x.key = y.key ∧ x.v = y.v ∧ x.left = y.left ∧ x.right = y.right) → ¬ (r = r ∧ pls ns = pls ms) := fun h1 h2 => hne (fun h3 => h1 (hpe.1 h3)) h2.2
        by_cases q0 : x.leaf = y.leaf
        · rw [← q0] at g0
          by_cases q1 : x.key = y.key
          · rw [← q1] at g1
            repeat' (first | (refine goE ?_; intros) | (refine vl_caseG rfl rfl rfl rfl ?_ ?_ <;> (intro hb; (try simp only [decide_eq_true_eq, decide_eq_false_iff_not, Bool.not_eq_true', Bool.not_eq_false', ne_eq, Decidable.not_not, Option.isNone_iff_eq_none, not_true_eq_false, not_false_eq_true] at hb); try (exfalso; omega))) | (refine v_cond rfl ?_ ?_ <;> (intro hb; (try simp only [decide_eq_true_eq, decide_eq_false_iff_not, Bool.not_eq_true', Bool.not_eq_false', ne_eq, Decidable.not_not, Option.isNone_iff_eq_none, not_true_eq_false, not_false_eq_true] at hb); try (exfalso; omega))) | fail)
            refine vl_o rfl (vo_call rfl rfl ?_)
            refine vc_mono (same_vc w0 _ x.a x.c x.v y.a y.c y.v rfl rfl) ?_
            rintro v L' ⟨rfl, rfl⟩
            by_cases q2 : x.v = y.v
            · rw [decide_eq_true q2]
              by_cases q3 : x.left = y.left
              · rw [← q3] at g3
                by_cases q4 : x.right = y.right
                · rw [← q4] at g4
                  repeat' (first | (refine goE ?_; intros) | (refine vl_caseG rfl rfl rfl rfl ?_ ?_ <;> (intro hb; (try simp only [decide_eq_true_eq, decide_eq_false_iff_not, Bool.not_eq_true', Bool.not_eq_false', ne_eq, Decidable.not_not, Option.isNone_iff_eq_none, not_true_eq_false, not_false_eq_true] at hb); try (exfalso; omega))) | (refine v_cond rfl ?_ ?_ <;> (intro hb; (try simp only [decide_eq_true_eq, decide_eq_false_iff_not, Bool.not_eq_true', Bool.not_eq_false', ne_eq, Decidable.not_not, Option.isNone_iff_eq_none, not_true_eq_false, not_false_eq_true] at hb); try (exfalso; omega))) | fail)
                  exact ⟨rfl, i + 1, ⟨by omega, hstep (hpe.2 ⟨q0, q1, q2, q3, q4⟩)⟩, by omega, by (repeat' (first | exact Sub.nil _ | refine Sub.cons rfl rfl ?_ | refine Sub.cons rfl ?_ ?_)), sei _ _ _⟩
                · repeat' (first | (refine goE ?_; intros) | (refine vl_caseG rfl rfl rfl rfl ?_ ?_ <;> (intro hb; (try simp only [decide_eq_true_eq, decide_eq_false_iff_not, Bool.not_eq_true', Bool.not_eq_false', ne_eq, Decidable.not_not, Option.isNone_iff_eq_none, not_true_eq_false, not_false_eq_true] at hb); try (exfalso; omega))) | (refine v_cond rfl ?_ ?_ <;> (intro hb; (try simp only [decide_eq_true_eq, decide_eq_false_iff_not, Bool.not_eq_true', Bool.not_eq_false', ne_eq, Decidable.not_not, Option.isNone_iff_eq_none, not_true_eq_false, not_false_eq_true] at hb); try (exfalso; omega))) | fail)
                  all_goals first | exact absurd hb q4 | exact ⟨L, sei _ _ _, hno (hbad (fun e => q4 e.2.2.2.2)) rfl, rfl⟩
              · repeat' (first | (refine goE ?_; intros) | (refine vl_caseG rfl rfl rfl rfl ?_ ?_ <;> (intro hb; (try simp only [decide_eq_true_eq, decide_eq_false_iff_not, Bool.not_eq_true', Bool.not_eq_false', ne_eq, Decidable.not_not, Option.isNone_iff_eq_none, not_true_eq_false, not_false_eq_true] at hb); try (exfalso; omega))) | (refine v_cond rfl ?_ ?_ <;> (intro hb; (try simp only [decide_eq_true_eq, decide_eq_false_iff_not, Bool.not_eq_true', Bool.not_eq_false', ne_eq, Decidable.not_not, Option.isNone_iff_eq_none, not_true_eq_false, not_false_eq_true] at hb); try (exfalso; omega))) | fail)
                all_goals first | exact absurd hb q3 | exact ⟨L, sei _ _ _, hno (hbad (fun e => q3 e.2.2.2.1)) rfl, rfl⟩
            · rw [decide_eq_false q2]
              repeat' (first | (refine goE ?_; intros) | (refine vl_caseG rfl rfl rfl rfl ?_ ?_ <;> (intro hb; (try simp only [decide_eq_true_eq, decide_eq_false_iff_not, Bool.not_eq_true', Bool.not_eq_false', ne_eq, Decidable.not_not, Option.isNone_iff_eq_none, not_true_eq_false, not_false_eq_true] at hb); try (exfalso; omega))) | (refine v_cond rfl ?_ ?_ <;> (intro hb; (try simp only [decide_eq_true_eq, decide_eq_false_iff_not, Bool.not_eq_true', Bool.not_eq_false', ne_eq, Decidable.not_not, Option.isNone_iff_eq_none, not_true_eq_false, not_false_eq_true] at hb); try (exfalso; omega))) | fail)
              exact ⟨L, sei _ _ _, hno (hbad (fun e => q2 e.2.2.1)) rfl, rfl⟩
          · repeat' (first | (refine goE ?_; intros) | (refine vl_caseG rfl rfl rfl rfl ?_ ?_ <;> (intro hb; (try simp only [decide_eq_true_eq, decide_eq_false_iff_not, Bool.not_eq_true', Bool.not_eq_false', ne_eq, Decidable.not_not, Option.isNone_iff_eq_none, not_true_eq_false, not_false_eq_true] at hb); try (exfalso; omega))) | (refine v_cond rfl ?_ ?_ <;> (intro hb; (try simp only [decide_eq_true_eq, decide_eq_false_iff_not, Bool.not_eq_true', Bool.not_eq_false', ne_eq, Decidable.not_not, Option.isNone_iff_eq_none, not_true_eq_false, not_false_eq_true] at hb); try (exfalso; omega))) | fail)
            all_goals first | exact absurd hb q1 | exact ⟨L, sei _ _ _, hno (hbad (fun e => q1 e.2.1)) rfl, rfl⟩
        · repeat' (first | (refine goE ?_; intros) | (refine vl_caseG rfl rfl rfl rfl ?_ ?_ <;> (intro hb; (try simp only [decide_eq_true_eq, decide_eq_false_iff_not, Bool.not_eq_true', Bool.not_eq_false', ne_eq, Decidable.not_not, Option.isNone_iff_eq_none, not_true_eq_false, not_false_eq_true] at hb); try (exfalso; omega))) | (refine v_cond rfl ?_ ?_ <;> (intro hb; (try simp only [decide_eq_true_eq, decide_eq_false_iff_not, Bool.not_eq_true', Bool.not_eq_false', ne_eq, Decidable.not_not, Option.isNone_iff_eq_none, not_true_eq_false, not_false_eq_true] at hb); try (exfalso; omega))) | fail)
          all_goals first | exact ⟨L, sei _ _ _, hno (hbad (fun e => q0 e.1)) rfl, rfl⟩ | exact absurd (by simpa using hb) q0 | (exact absurd (by simpa using ‹(x.leaf != y.leaf) = false›) q0)
      · obtain rfl : i = ns.length := by omega
        repeat' (first | (refine go1 ?_; intros) | (refine vl_caseG rfl rfl rfl rfl ?_ ?_ <;> (intro hb; (try simp only [decide_eq_true_eq, decide_eq_false_iff_not, Bool.not_eq_true', Bool.not_eq_false', ne_eq, Decidable.not_not, Option.isNone_iff_eq_none, not_true_eq_false, not_false_eq_true] at hb); try (exfalso; omega))) | (refine v_cond rfl ?_ ?_ <;> (intro hb; (try simp only [decide_eq_true_eq, decide_eq_false_iff_not, Bool.not_eq_true', Bool.not_eq_false', ne_eq, Decidable.not_not, Option.isNone_iff_eq_none, not_true_eq_false, not_false_eq_true] at hb); try (exfalso; omega))) | fail)
        refine ⟨L, sei _ _ _, ?_, rfl⟩
        rw [List.take_of_length_le (by simp), List.take_of_length_le (by simp; omega)] at he
        rw [decide_eq_true ⟨rfl, he⟩]
    · repeat' (first | (refine goS ?_; intros) | (refine vl_caseG rfl rfl rfl rfl ?_ ?_ <;> (intro hb; (try simp only [decide_eq_true_eq, decide_eq_false_iff_not, Bool.not_eq_true', Bool.not_eq_false', ne_eq, Decidable.not_not, Option.isNone_iff_eq_none, not_true_eq_false, not_false_eq_true] at hb); try (exfalso; omega))) | (refine v_cond rfl ?_ ?_ <;> (intro hb; (try simp only [decide_eq_true_eq, decide_eq_false_iff_not, Bool.not_eq_true', Bool.not_eq_false', ne_eq, Decidable.not_not, Option.isNone_iff_eq_none, not_true_eq_false, not_false_eq_true] at hb); try (exfalso; omega))) | fail)
      all_goals exact ⟨L, sei _ _ _, hno (fun e => pls_nel hl e.2) rfl, rfl⟩
  · repeat' (first | (refine goS ?_; intros) | (refine vl_caseG rfl rfl rfl rfl ?_ ?_ <;> (intro hb; (try simp only [decide_eq_true_eq, decide_eq_false_iff_not, Bool.not_eq_true', Bool.not_eq_false', ne_eq, Decidable.not_not, Option.isNone_iff_eq_none, not_true_eq_false, not_false_eq_true] at hb); try (exfalso; omega))) | (refine v_cond rfl ?_ ?_ <;> (intro hb; (try simp only [decide_eq_true_eq, decide_eq_false_iff_not, Bool.not_eq_true', Bool.not_eq_false', ne_eq, Decidable.not_not, Option.isNone_iff_eq_none, not_true_eq_false, not_false_eq_true] at hb); try (exfalso; omega))) | fail)
    all_goals first | (exact absurd hb hrs) | exact ⟨L, sei _ _ _, hno (fun e => hrs e.1) rfl, rfl⟩
end Go.Proofs.YtmaimkbppnpbnaaDoor
namespace Go.Proofs.YtmaimkbppnpbnaaDoor
open Go Go.RowKit
set_option linter.unusedVariables false
set_option linter.unusedSimpArgs false
open Classical

section
variable {P : Program} {w0 : World} {n : Nat} {ds : List Deferred} {fr : Fr} {L : List Asn} {dst : Option Nat} {ty : TypeId} {pos : String} {after : Array Edge} {gd : Option (Nat × Bool)}
theorem vq_eq2 {t yt : TypeId} {x y : Operand} {a b c d : Int} (hx : evA fr x = some (.agg #[.int .i64 a, .int .i64 b])) (hy : evA fr y = some (.agg #[.int .i64 c, .int .i64 d])) [he : EqI P t [some .i64, some .i64]] : VQ P w0 n ⟨dst, .binOp .eql t x y yt, ty, pos, after, gd⟩ (.bool (decide (a = c ∧ b = d))) ds fr L :=
  vq_val (fun u w hk _ => run_eqAgg t yt x y rfl he [.int .i64 a, .int .i64 b] [.int .i64 c, .int .i64 d] (hk.ev hx) (hk.ev hy) ⟨⟨_, rfl⟩, ⟨_, rfl⟩, trivial⟩ ⟨⟨_, rfl⟩, ⟨_, rfl⟩, trivial⟩ _ (by simp))
end
set_option maxRecDepth 100000 in
set_option maxHeartbeats 1000000 in
theorem tsame1_vc (w0 : World) (L : List Asn) (x y : Nd) (hk : x.key.length = 32) (hk2 : y.key.length = 32) (hvl : x.v.length ≤ 1000000) [r1 : RdC w0 L x.a (bvs x.v)] [r2 : RdC w0 L y.a (bvs y.v)] :
    VC Tryd.prog w0 75 [.agg x.cells.toArray, .agg y.cells.toArray] L fun v L' => v = .bool (decide (x.pl = y.pl)) ∧ L' = L := by
  have f0 := Nd.f0 (x := x)
  have f1 := Nd.f1 hk
  have f2 := Nd.f2 hk
  have hR := fun L => roads_vc w0 L x hk
  have hc := Nd.len hk
  haveI hoc : OC x.cells := oc_nd _
  have g0 := Nd.f0 (x := y)
  have g1 := Nd.f1 hk2
  have g2 := Nd.f2 hk2
  have hS := fun L => roads_vc w0 L y hk2
  have hd := Nd.len hk2
  haveI hod : OC y.cells := oc_nd _
  have hpe := pl_eq (x := x) (y := y)
  have hno : ∀ {v : Value}, ¬ (x.leaf = y.leaf ∧ x.key = y.key ∧ x.v = y.v ∧ x.left = y.left ∧ x.right = y.right) → v = .bool false → v = .bool (decide (x.pl = y.pl)) := fun h1 h2 => by rw [h2, decide_eq_false (fun e => h1 (hpe.1 e))]
  generalize x.cells = cs at *
  generalize y.cells = ds at *
  refine vc_ent ?_
  refine vc_in rfl rfl ?_
  by_cases q0 : x.leaf = y.leaf
  · rw [← q0] at g0
    by_cases q1 : x.key = y.key
    · rw [← q1] at g1
      repeat' (first | (refine go1 ?_; intros) | (refine vl_caseG rfl rfl rfl rfl ?_ ?_ <;> (intro hb; (try simp only [decide_eq_true_eq, decide_eq_false_iff_not, Bool.not_eq_true', Bool.not_eq_false', ne_eq, Decidable.not_not, Option.isNone_iff_eq_none, not_true_eq_false, not_false_eq_true] at hb); try (exfalso; omega))) | (refine v_cond rfl ?_ ?_ <;> (intro hb; (try simp only [decide_eq_true_eq, decide_eq_false_iff_not, Bool.not_eq_true', Bool.not_eq_false', ne_eq, Decidable.not_not, Option.isNone_iff_eq_none, not_true_eq_false, not_false_eq_true] at hb); try (exfalso; omega))) | fail)
      (refine v_draw0 [] (by kernel_rfl) ?_ <;> (refine va_takeA 0 rfl rfl rfl rfl ?_) <;> (refine va_takeA 1 rfl rfl rfl rfl ?_) <;> (refine va_takeA 2 rfl rfl rfl rfl ?_) <;> (refine va_takeA 3 rfl rfl rfl rfl ?_) <;> (refine va_take 4 rfl rfl rfl rfl (by kernel_rfl) (fun _ _ _ _ h => h) (SE.ent (by repeat' (first | exact SE.refl _ | refine SE.cons _ ?_ | refine SE.trans (se_drop _ _) ?_)) _) (by (first | (apply vq_isBin; first | exact vq_neS rfl rfl | exact vq_neBoolS rfl rfl | (apply vq_isOp .neq; first | exact vq_neBS rfl rfl (by first | assumption | (simp; done)) | exact vq_neTxS rfl rfl (by assumption)) | (apply vq_isOp .eql; first | exact vq_eqS rfl rfl | exact vq_eqBS rfl rfl (by first | assumption | (simp; done)) | exact vq_eqTxS rfl rfl (by assumption) | exact vq_eqHdS rfl rfl (by assumption) | exact vq_eqRecS rfl rfl (by assumption) | exact vq_eqTx rfl rfl (by assumption) (by assumption))) | (apply vq_isBin; first | exact vq_lt rfl rfl | exact vq_eq rfl rfl | exact vq_ne rfl rfl | (apply vq_isOp .add; exact vq_add rfl rfl (by first | exact wr_add (by omega) | exact wu_add (by omega) | exact wr_id (by omega) (by omega) | rfl)) | (apply vq_isOp .sub; exact vq_minus rfl rfl (by first | exact wr_sub (by omega) (by omega) | exact wu_sub (by omega) (by omega) | exact wr_id (by omega) (by omega) | rfl)) | exact vq_gt rfl rfl | exact vq_le rfl rfl | exact vq_ge rfl rfl | (apply vq_isOp .mul; exact vq_mul rfl rfl (by first | exact wr_mul (by omega) | exact wr_id (by omega) (by omega) | rfl)) | (apply vq_isOp .or; exact vq_or rfl rfl (by rfl)) | (apply vq_isOp .and; exact vq_and rfl rfl (by rfl)) | (apply vq_isOp .xor; exact vq_xor rfl rfl (by rfl)) | (apply vq_isOp .shl; exact vq_shl rfl rfl (by omega) (by rfl)) | (apply vq_isOp .shr; exact vq_shr rfl rfl (by omega) (by rfl)) | (apply vq_isOp .quo; exact vq_quo rfl rfl (by decide) (by first | exact q8_i64 (by omega) | exact q2_u8 (by omega) | exact q4_i64 (by omega) | assumption | rfl)) | (apply vq_isOp .rem; exact vq_rem rfl rfl (by decide) (by first | exact r8 | exact r2 | exact r4 | exact r64 | assumption | rfl)) | exact vq_eqNil rfl rfl | exact vq_eqBool rfl rfl | (apply vq_isOp .eql; exact vq_eqB rfl rfl (by first | assumption | (simp; done)) (by first | assumption | (simp; done))) | (apply vq_isOp .neq; first | exact vq_neBool rfl rfl | exact vq_neB rfl rfl (by first | assumption | (simp; done)) (by first | assumption | (simp; done)))))) ?_) <;> (refine va_takeA 5 rfl rfl rfl rfl ?_) <;> (first | refine va_takeGA 6 rfl rfl rfl rfl rfl rfl rfl rfl ?_ | refine va_passGA 6 rfl rfl rfl rfl rfl rfl rfl rfl ?_ | (refine va_caseG 6 rfl rfl rfl rfl rfl ?_ ?_ <;> (intro hb; (try simp only [decide_eq_true_eq, decide_eq_false_iff_not, Bool.not_eq_true', Bool.not_eq_false', ne_eq, Decidable.not_not, Option.isNone_iff_eq_none, not_true_eq_false, not_false_eq_true] at hb); try (exfalso; omega)) <;> first | refine va_takeGA 6 rfl rfl rfl rfl rfl rfl rfl rfl ?_ | refine va_passGA 6 rfl rfl rfl rfl rfl rfl rfl rfl ?_)) <;> (first | refine va_takeGA 7 rfl rfl rfl rfl rfl rfl rfl rfl ?_ | refine va_passGA 7 rfl rfl rfl rfl rfl rfl rfl rfl ?_ | (refine va_caseG 7 rfl rfl rfl rfl rfl ?_ ?_ <;> (intro hb; (try simp only [decide_eq_true_eq, decide_eq_false_iff_not, Bool.not_eq_true', Bool.not_eq_false', ne_eq, Decidable.not_not, Option.isNone_iff_eq_none, not_true_eq_false, not_false_eq_true] at hb); try (exfalso; omega)) <;> first | refine va_takeGA 7 rfl rfl rfl rfl rfl rfl rfl rfl ?_ | refine va_passGA 7 rfl rfl rfl rfl rfl rfl rfl rfl ?_)) <;> (first | refine va_takeGA 8 rfl rfl rfl rfl rfl rfl rfl rfl ?_ | refine va_passGA 8 rfl rfl rfl rfl rfl rfl rfl rfl ?_ | (refine va_caseG 8 rfl rfl rfl rfl rfl ?_ ?_ <;> (intro hb; (try simp only [decide_eq_true_eq, decide_eq_false_iff_not, Bool.not_eq_true', Bool.not_eq_false', ne_eq, Decidable.not_not, Option.isNone_iff_eq_none, not_true_eq_false, not_false_eq_true] at hb); try (exfalso; omega)) <;> first | refine va_takeGA 8 rfl rfl rfl rfl rfl rfl rfl rfl ?_ | refine va_passGA 8 rfl rfl rfl rfl rfl rfl rfl rfl ?_)) <;> (first | refine va_takeGA 9 rfl rfl rfl rfl rfl rfl rfl rfl ?_ | refine va_passGA 9 rfl rfl rfl rfl rfl rfl rfl rfl ?_ | (refine va_caseG 9 rfl rfl rfl rfl rfl ?_ ?_ <;> (intro hb; (try simp only [decide_eq_true_eq, decide_eq_false_iff_not, Bool.not_eq_true', Bool.not_eq_false', ne_eq, Decidable.not_not, Option.isNone_iff_eq_none, not_true_eq_false, not_false_eq_true] at hb); try (exfalso; omega)) <;> first | refine va_takeGA 9 rfl rfl rfl rfl rfl rfl rfl rfl ?_ | refine va_passGA 9 rfl rfl rfl rfl rfl rfl rfl rfl ?_)) <;> (first | refine va_takeG 10 rfl rfl rfl rfl rfl rfl rfl rfl (by kernel_rfl) (fun _ _ _ _ h => h) (SE.ent (by repeat' (first | exact SE.refl _ | refine SE.cons _ ?_ | refine SE.trans (se_drop _ _) ?_)) _) (by (first | (apply vq_isBin; first | exact vq_neS rfl rfl | exact vq_neBoolS rfl rfl | (apply vq_isOp .neq; first | exact vq_neBS rfl rfl (by first | assumption | (simp; done)) | exact vq_neTxS rfl rfl (by assumption)) | (apply vq_isOp .eql; first | exact vq_eqS rfl rfl | exact vq_eqBS rfl rfl (by first | assumption | (simp; done)) | exact vq_eqTxS rfl rfl (by assumption) | exact vq_eqHdS rfl rfl (by assumption) | exact vq_eqRecS rfl rfl (by assumption) | exact vq_eqTx rfl rfl (by assumption) (by assumption))) | (apply vq_isBin; first | exact vq_lt rfl rfl | exact vq_eq rfl rfl | exact vq_ne rfl rfl | (apply vq_isOp .add; exact vq_add rfl rfl (by first | exact wr_add (by omega) | exact wu_add (by omega) | exact wr_id (by omega) (by omega) | rfl)) | (apply vq_isOp .sub; exact vq_minus rfl rfl (by first | exact wr_sub (by omega) (by omega) | exact wu_sub (by omega) (by omega) | exact wr_id (by omega) (by omega) | rfl)) | exact vq_gt rfl rfl | exact vq_le rfl rfl | exact vq_ge rfl rfl | (apply vq_isOp .mul; exact vq_mul rfl rfl (by first | exact wr_mul (by omega) | exact wr_id (by omega) (by omega) | rfl)) | (apply vq_isOp .or; exact vq_or rfl rfl (by rfl)) | (apply vq_isOp .and; exact vq_and rfl rfl (by rfl)) | (apply vq_isOp .xor; exact vq_xor rfl rfl (by rfl)) | (apply vq_isOp .shl; exact vq_shl rfl rfl (by omega) (by rfl)) | (apply vq_isOp .shr; exact vq_shr rfl rfl (by omega) (by rfl)) | (apply vq_isOp .quo; exact vq_quo rfl rfl (by decide) (by first | exact q8_i64 (by omega) | exact q2_u8 (by omega) | exact q4_i64 (by omega) | assumption | rfl)) | (apply vq_isOp .rem; exact vq_rem rfl rfl (by decide) (by first | exact r8 | exact r2 | exact r4 | exact r64 | assumption | rfl)) | exact vq_eqNil rfl rfl | exact vq_eqBool rfl rfl | (apply vq_isOp .eql; exact vq_eqB rfl rfl (by first | assumption | (simp; done)) (by first | assumption | (simp; done))) | (apply vq_isOp .neq; first | exact vq_neBool rfl rfl | exact vq_neB rfl rfl (by first | assumption | (simp; done)) (by first | assumption | (simp; done)))))) ?_ | refine va_passGA 10 rfl rfl rfl rfl rfl rfl rfl rfl ?_ | (refine va_caseG 10 rfl rfl rfl rfl rfl ?_ ?_ <;> (intro hb; (try simp only [decide_eq_true_eq, decide_eq_false_iff_not, Bool.not_eq_true', Bool.not_eq_false', ne_eq, Decidable.not_not, Option.isNone_iff_eq_none, not_true_eq_false, not_false_eq_true] at hb); try (exfalso; omega)) <;> first | refine va_takeG 10 rfl rfl rfl rfl rfl rfl rfl rfl (by kernel_rfl) (fun _ _ _ _ h => h) (SE.ent (by repeat' (first | exact SE.refl _ | refine SE.cons _ ?_ | refine SE.trans (se_drop _ _) ?_)) _) (by (first | (apply vq_isBin; first | exact vq_neS rfl rfl | exact vq_neBoolS rfl rfl | (apply vq_isOp .neq; first | exact vq_neBS rfl rfl (by first | assumption | (simp; done)) | exact vq_neTxS rfl rfl (by assumption)) | (apply vq_isOp .eql; first | exact vq_eqS rfl rfl | exact vq_eqBS rfl rfl (by first | assumption | (simp; done)) | exact vq_eqTxS rfl rfl (by assumption) | exact vq_eqHdS rfl rfl (by assumption) | exact vq_eqRecS rfl rfl (by assumption) | exact vq_eqTx rfl rfl (by assumption) (by assumption))) | (apply vq_isBin; first | exact vq_lt rfl rfl | exact vq_eq rfl rfl | exact vq_ne rfl rfl | (apply vq_isOp .add; exact vq_add rfl rfl (by first | exact wr_add (by omega) | exact wu_add (by omega) | exact wr_id (by omega) (by omega) | rfl)) | (apply vq_isOp .sub; exact vq_minus rfl rfl (by first | exact wr_sub (by omega) (by omega) | exact wu_sub (by omega) (by omega) | exact wr_id (by omega) (by omega) | rfl)) | exact vq_gt rfl rfl | exact vq_le rfl rfl | exact vq_ge rfl rfl | (apply vq_isOp .mul; exact vq_mul rfl rfl (by first | exact wr_mul (by omega) | exact wr_id (by omega) (by omega) | rfl)) | (apply vq_isOp .or; exact vq_or rfl rfl (by rfl)) | (apply vq_isOp .and; exact vq_and rfl rfl (by rfl)) | (apply vq_isOp .xor; exact vq_xor rfl rfl (by rfl)) | (apply vq_isOp .shl; exact vq_shl rfl rfl (by omega) (by rfl)) | (apply vq_isOp .shr; exact vq_shr rfl rfl (by omega) (by rfl)) | (apply vq_isOp .quo; exact vq_quo rfl rfl (by decide) (by first | exact q8_i64 (by omega) | exact q2_u8 (by omega) | exact q4_i64 (by omega) | assumption | rfl)) | (apply vq_isOp .rem; exact vq_rem rfl rfl (by decide) (by first | exact r8 | exact r2 | exact r4 | exact r64 | assumption | rfl)) | exact vq_eqNil rfl rfl | exact vq_eqBool rfl rfl | (apply vq_isOp .eql; exact vq_eqB rfl rfl (by first | assumption | (simp; done)) (by first | assumption | (simp; done))) | (apply vq_isOp .neq; first | exact vq_neBool rfl rfl | exact vq_neB rfl rfl (by first | assumption | (simp; done)) (by first | assumption | (simp; done)))))) ?_ | refine va_passGA 10 rfl rfl rfl rfl rfl rfl rfl rfl ?_)) <;> (refine va_takeA 11 rfl rfl rfl rfl ?_) <;> (refine va_takeA 12 rfl rfl rfl rfl ?_) <;> (first | refine va_takeGA 13 rfl rfl rfl rfl rfl rfl rfl rfl ?_ | refine va_passGA 13 rfl rfl rfl rfl rfl rfl rfl rfl ?_ | (refine va_caseG 13 rfl rfl rfl rfl rfl ?_ ?_ <;> (intro hb; (try simp only [decide_eq_true_eq, decide_eq_false_iff_not, Bool.not_eq_true', Bool.not_eq_false', ne_eq, Decidable.not_not, Option.isNone_iff_eq_none, not_true_eq_false, not_false_eq_true] at hb); try (exfalso; omega)) <;> first | refine va_takeGA 13 rfl rfl rfl rfl rfl rfl rfl rfl ?_ | refine va_passGA 13 rfl rfl rfl rfl rfl rfl rfl rfl ?_)) <;> (first | refine va_takeGA 14 rfl rfl rfl rfl rfl rfl rfl rfl ?_ | refine va_passGA 14 rfl rfl rfl rfl rfl rfl rfl rfl ?_ | (refine va_caseG 14 rfl rfl rfl rfl rfl ?_ ?_ <;> (intro hb; (try simp only [decide_eq_true_eq, decide_eq_false_iff_not, Bool.not_eq_true', Bool.not_eq_false', ne_eq, Decidable.not_not, Option.isNone_iff_eq_none, not_true_eq_false, not_false_eq_true] at hb); try (exfalso; omega)) <;> first | refine va_takeGA 14 rfl rfl rfl rfl rfl rfl rfl rfl ?_ | refine va_passGA 14 rfl rfl rfl rfl rfl rfl rfl rfl ?_)) <;> (first | refine va_takeGA 15 rfl rfl rfl rfl rfl rfl rfl rfl ?_ | refine va_passGA 15 rfl rfl rfl rfl rfl rfl rfl rfl ?_ | (refine va_caseG 15 rfl rfl rfl rfl rfl ?_ ?_ <;> (intro hb; (try simp only [decide_eq_true_eq, decide_eq_false_iff_not, Bool.not_eq_true', Bool.not_eq_false', ne_eq, Decidable.not_not, Option.isNone_iff_eq_none, not_true_eq_false, not_false_eq_true] at hb); try (exfalso; omega)) <;> first | refine va_takeGA 15 rfl rfl rfl rfl rfl rfl rfl rfl ?_ | refine va_passGA 15 rfl rfl rfl rfl rfl rfl rfl rfl ?_)) <;> (first | refine va_takeGA 16 rfl rfl rfl rfl rfl rfl rfl rfl ?_ | refine va_passGA 16 rfl rfl rfl rfl rfl rfl rfl rfl ?_ | (refine va_caseG 16 rfl rfl rfl rfl rfl ?_ ?_ <;> (intro hb; (try simp only [decide_eq_true_eq, decide_eq_false_iff_not, Bool.not_eq_true', Bool.not_eq_false', ne_eq, Decidable.not_not, Option.isNone_iff_eq_none, not_true_eq_false, not_false_eq_true] at hb); try (exfalso; omega)) <;> first | refine va_takeGA 16 rfl rfl rfl rfl rfl rfl rfl rfl ?_ | refine va_passGA 16 rfl rfl rfl rfl rfl rfl rfl rfl ?_)))
      all_goals first | (exfalso; simp at hb; done) | skip
      refine va_oneG 17 (by kernel_rfl) rfl rfl rfl rfl rfl rfl (vo_call rfl rfl ?_)
      refine vc_mono (eqB_vc w0 _ x.a x.c x.v y.a y.c y.v rfl rfl (by omega)) ?_
      rintro v L' ⟨rfl, rfl⟩
      refine ⟨.inr (SE.ent (by repeat' (first | exact SE.refl _ | refine SE.cons _ ?_ | refine SE.trans (se_drop _ _) ?_)) _), ?_⟩
      by_cases q2 : x.v = y.v
      · rw [decide_eq_true q2]
        ((refine va_takeA 18 rfl rfl rfl rfl ?_) <;> (refine va_takeA 19 rfl rfl rfl rfl ?_) <;> (first | refine va_takeGA 20 rfl rfl rfl rfl rfl rfl rfl rfl ?_ | refine va_passGA 20 rfl rfl rfl rfl rfl rfl rfl rfl ?_ | (refine va_caseG 20 rfl rfl rfl rfl rfl ?_ ?_ <;> (intro hb; (try simp only [decide_eq_true_eq, decide_eq_false_iff_not, Bool.not_eq_true', Bool.not_eq_false', ne_eq, Decidable.not_not, Option.isNone_iff_eq_none, not_true_eq_false, not_false_eq_true] at hb); try (exfalso; omega)) <;> first | refine va_takeGA 20 rfl rfl rfl rfl rfl rfl rfl rfl ?_ | refine va_passGA 20 rfl rfl rfl rfl rfl rfl rfl rfl ?_)) <;> (first | refine va_takeGA 22 rfl rfl rfl rfl rfl rfl rfl rfl ?_ | refine va_passGA 22 rfl rfl rfl rfl rfl rfl rfl rfl ?_ | (refine va_caseG 22 rfl rfl rfl rfl rfl ?_ ?_ <;> (intro hb; (try simp only [decide_eq_true_eq, decide_eq_false_iff_not, Bool.not_eq_true', Bool.not_eq_false', ne_eq, Decidable.not_not, Option.isNone_iff_eq_none, not_true_eq_false, not_false_eq_true] at hb); try (exfalso; omega)) <;> first | refine va_takeGA 22 rfl rfl rfl rfl rfl rfl rfl rfl ?_ | refine va_passGA 22 rfl rfl rfl rfl rfl rfl rfl rfl ?_)))
        refine va_oneG 21 (by kernel_rfl) rfl rfl rfl rfl rfl rfl (vo_call rfl rfl ?_)
        refine vc_mono (hR _) ?_
        rintro v L' ⟨rfl, rfl⟩
        refine ⟨.inr (SE.ent (by repeat' (first | exact SE.refl _ | refine SE.cons _ ?_ | refine SE.trans (se_drop _ _) ?_)) _), ?_⟩
        skip
        refine va_oneG 23 (by kernel_rfl) rfl rfl rfl rfl rfl rfl (vo_call rfl rfl ?_)
        refine vc_mono (hS _) ?_
        rintro v L' ⟨rfl, rfl⟩
        refine ⟨.inr (SE.ent (by repeat' (first | exact SE.refl _ | refine SE.cons _ ?_ | refine SE.trans (se_drop _ _) ?_)) _), ?_⟩
        refine va_takeG 24 rfl rfl rfl rfl rfl rfl rfl rfl (by kernel_rfl) (fun _ _ _ _ h => h) (sei _ _ _) (vq_eq2 rfl rfl) ?_
        (refine va_takeA 25 rfl rfl rfl rfl ?_)
        (refine va_takeA 26 rfl rfl rfl rfl ?_)
        (refine va_done (by kernel_rfl) ?_)
        repeat' (first | (refine go1 ?_; intros) | (refine vl_caseG rfl rfl rfl rfl ?_ ?_ <;> (intro hb; (try simp only [decide_eq_true_eq, decide_eq_false_iff_not, Bool.not_eq_true', Bool.not_eq_false', ne_eq, Decidable.not_not, Option.isNone_iff_eq_none, not_true_eq_false, not_false_eq_true] at hb); try (exfalso; omega))) | (refine v_cond rfl ?_ ?_ <;> (intro hb; (try simp only [decide_eq_true_eq, decide_eq_false_iff_not, Bool.not_eq_true', Bool.not_eq_false', ne_eq, Decidable.not_not, Option.isNone_iff_eq_none, not_true_eq_false, not_false_eq_true] at hb); try (exfalso; omega))) | fail)
        refine ⟨L, sei _ _ _, congrArg Value.bool (decide_eq_decide.2 ?_), rfl⟩
        rw [hpe]
        exact ⟨fun e => ⟨q0, q1, q2, e⟩, fun e => e.2.2.2⟩
      · rw [decide_eq_false q2]
        ((refine va_takeA 18 rfl rfl rfl rfl ?_) <;> (refine va_takeA 19 rfl rfl rfl rfl ?_) <;> (first | refine va_takeGA 20 rfl rfl rfl rfl rfl rfl rfl rfl ?_ | refine va_passGA 20 rfl rfl rfl rfl rfl rfl rfl rfl ?_ | (refine va_caseG 20 rfl rfl rfl rfl rfl ?_ ?_ <;> (intro hb; (try simp only [decide_eq_true_eq, decide_eq_false_iff_not, Bool.not_eq_true', Bool.not_eq_false', ne_eq, Decidable.not_not, Option.isNone_iff_eq_none, not_true_eq_false, not_false_eq_true] at hb); try (exfalso; omega)) <;> first | refine va_takeGA 20 rfl rfl rfl rfl rfl rfl rfl rfl ?_ | refine va_passGA 20 rfl rfl rfl rfl rfl rfl rfl rfl ?_)) <;> (first | refine va_takeGA 22 rfl rfl rfl rfl rfl rfl rfl rfl ?_ | refine va_passGA 22 rfl rfl rfl rfl rfl rfl rfl rfl ?_ | (refine va_caseG 22 rfl rfl rfl rfl rfl ?_ ?_ <;> (intro hb; (try simp only [decide_eq_true_eq, decide_eq_false_iff_not, Bool.not_eq_true', Bool.not_eq_false', ne_eq, Decidable.not_not, Option.isNone_iff_eq_none, not_true_eq_false, not_false_eq_true] at hb); try (exfalso; omega)) <;> first | refine va_takeGA 22 rfl rfl rfl rfl rfl rfl rfl rfl ?_ | refine va_passGA 22 rfl rfl rfl rfl rfl rfl rfl rfl ?_)))
        refine va_passGA 21 rfl rfl rfl rfl rfl rfl rfl rfl ?_
        skip
        refine va_passGA 23 rfl rfl rfl rfl rfl rfl rfl rfl ?_
        ((first | refine va_takeG 24 rfl rfl rfl rfl rfl rfl rfl rfl (by kernel_rfl) (fun _ _ _ _ h => h) (SE.ent (by repeat' (first | exact SE.refl _ | refine SE.cons _ ?_ | refine SE.trans (se_drop _ _) ?_)) _) (by (first | (apply vq_isBin; first | exact vq_neS rfl rfl | exact vq_neBoolS rfl rfl | (apply vq_isOp .neq; first | exact vq_neBS rfl rfl (by first | assumption | (simp; done)) | exact vq_neTxS rfl rfl (by assumption)) | (apply vq_isOp .eql; first | exact vq_eqS rfl rfl | exact vq_eqBS rfl rfl (by first | assumption | (simp; done)) | exact vq_eqTxS rfl rfl (by assumption) | exact vq_eqHdS rfl rfl (by assumption) | exact vq_eqRecS rfl rfl (by assumption) | exact vq_eqTx rfl rfl (by assumption) (by assumption))) | (apply vq_isBin; first | exact vq_lt rfl rfl | exact vq_eq rfl rfl | exact vq_ne rfl rfl | (apply vq_isOp .add; exact vq_add rfl rfl (by first | exact wr_add (by omega) | exact wu_add (by omega) | exact wr_id (by omega) (by omega) | rfl)) | (apply vq_isOp .sub; exact vq_minus rfl rfl (by first | exact wr_sub (by omega) (by omega) | exact wu_sub (by omega) (by omega) | exact wr_id (by omega) (by omega) | rfl)) | exact vq_gt rfl rfl | exact vq_le rfl rfl | exact vq_ge rfl rfl | (apply vq_isOp .mul; exact vq_mul rfl rfl (by first | exact wr_mul (by omega) | exact wr_id (by omega) (by omega) | rfl)) | (apply vq_isOp .or; exact vq_or rfl rfl (by rfl)) | (apply vq_isOp .and; exact vq_and rfl rfl (by rfl)) | (apply vq_isOp .xor; exact vq_xor rfl rfl (by rfl)) | (apply vq_isOp .shl; exact vq_shl rfl rfl (by omega) (by rfl)) | (apply vq_isOp .shr; exact vq_shr rfl rfl (by omega) (by rfl)) | (apply vq_isOp .quo; exact vq_quo rfl rfl (by decide) (by first | exact q8_i64 (by omega) | exact q2_u8 (by omega) | exact q4_i64 (by omega) | assumption | rfl)) | (apply vq_isOp .rem; exact vq_rem rfl rfl (by decide) (by first | exact r8 | exact r2 | exact r4 | exact r64 | assumption | rfl)) | exact vq_eqNil rfl rfl | exact vq_eqBool rfl rfl | (apply vq_isOp .eql; exact vq_eqB rfl rfl (by first | assumption | (simp; done)) (by first | assumption | (simp; done))) | (apply vq_isOp .neq; first | exact vq_neBool rfl rfl | exact vq_neB rfl rfl (by first | assumption | (simp; done)) (by first | assumption | (simp; done)))))) ?_ | refine va_passGA 24 rfl rfl rfl rfl rfl rfl rfl rfl ?_ | (refine va_caseG 24 rfl rfl rfl rfl rfl ?_ ?_ <;> (intro hb; (try simp only [decide_eq_true_eq, decide_eq_false_iff_not, Bool.not_eq_true', Bool.not_eq_false', ne_eq, Decidable.not_not, Option.isNone_iff_eq_none, not_true_eq_false, not_false_eq_true] at hb); try (exfalso; omega)) <;> first | refine va_takeG 24 rfl rfl rfl rfl rfl rfl rfl rfl (by kernel_rfl) (fun _ _ _ _ h => h) (SE.ent (by repeat' (first | exact SE.refl _ | refine SE.cons _ ?_ | refine SE.trans (se_drop _ _) ?_)) _) (by (first | (apply vq_isBin; first | exact vq_neS rfl rfl | exact vq_neBoolS rfl rfl | (apply vq_isOp .neq; first | exact vq_neBS rfl rfl (by first | assumption | (simp; done)) | exact vq_neTxS rfl rfl (by assumption)) | (apply vq_isOp .eql; first | exact vq_eqS rfl rfl | exact vq_eqBS rfl rfl (by first | assumption | (simp; done)) | exact vq_eqTxS rfl rfl (by assumption) | exact vq_eqHdS rfl rfl (by assumption) | exact vq_eqRecS rfl rfl (by assumption) | exact vq_eqTx rfl rfl (by assumption) (by assumption))) | (apply vq_isBin; first | exact vq_lt rfl rfl | exact vq_eq rfl rfl | exact vq_ne rfl rfl | (apply vq_isOp .add; exact vq_add rfl rfl (by first | exact wr_add (by omega) | exact wu_add (by omega) | exact wr_id (by omega) (by omega) | rfl)) | (apply vq_isOp .sub; exact vq_minus rfl rfl (by first | exact wr_sub (by omega) (by omega) | exact wu_sub (by omega) (by omega) | exact wr_id (by omega) (by omega) | rfl)) | exact vq_gt rfl rfl | exact vq_le rfl rfl | exact vq_ge rfl rfl | (apply vq_isOp .mul; exact vq_mul rfl rfl (by first | exact wr_mul (by omega) | exact wr_id (by omega) (by omega) | rfl)) | (apply vq_isOp .or; exact vq_or rfl rfl (by rfl)) | (apply vq_isOp .and; exact vq_and rfl rfl (by rfl)) | (apply vq_isOp .xor; exact vq_xor rfl rfl (by rfl)) | (apply vq_isOp .shl; exact vq_shl rfl rfl (by omega) (by rfl)) | (apply vq_isOp .shr; exact vq_shr rfl rfl (by omega) (by rfl)) | (apply vq_isOp .quo; exact vq_quo rfl rfl (by decide) (by first | exact q8_i64 (by omega) | exact q2_u8 (by omega) | exact q4_i64 (by omega) | assumption | rfl)) | (apply vq_isOp .rem; exact vq_rem rfl rfl (by decide) (by first | exact r8 | exact r2 | exact r4 | exact r64 | assumption | rfl)) | exact vq_eqNil rfl rfl | exact vq_eqBool rfl rfl | (apply vq_isOp .eql; exact vq_eqB rfl rfl (by first | assumption | (simp; done)) (by first | assumption | (simp; done))) | (apply vq_isOp .neq; first | exact vq_neBool rfl rfl | exact vq_neB rfl rfl (by first | assumption | (simp; done)) (by first | assumption | (simp; done)))))) ?_ | refine va_passGA 24 rfl rfl rfl rfl rfl rfl rfl rfl ?_)) <;> (refine va_takeA 25 rfl rfl rfl rfl ?_) <;> (refine va_takeA 26 rfl rfl rfl rfl ?_) <;> (refine va_done (by kernel_rfl) ?_))
        repeat' (first | (refine go1 ?_; intros) | (refine vl_caseG rfl rfl rfl rfl ?_ ?_ <;> (intro hb; (try simp only [decide_eq_true_eq, decide_eq_false_iff_not, Bool.not_eq_true', Bool.not_eq_false', ne_eq, Decidable.not_not, Option.isNone_iff_eq_none, not_true_eq_false, not_false_eq_true] at hb); try (exfalso; omega))) | (refine v_cond rfl ?_ ?_ <;> (intro hb; (try simp only [decide_eq_true_eq, decide_eq_false_iff_not, Bool.not_eq_true', Bool.not_eq_false', ne_eq, Decidable.not_not, Option.isNone_iff_eq_none, not_true_eq_false, not_false_eq_true] at hb); try (exfalso; omega))) | fail)
        exact ⟨L, sei _ _ _, hno (fun e => q2 e.2.2.1) rfl, rfl⟩
    · repeat' (first | (refine go1 ?_; intros) | (refine vl_caseG rfl rfl rfl rfl ?_ ?_ <;> (intro hb; (try simp only [decide_eq_true_eq, decide_eq_false_iff_not, Bool.not_eq_true', Bool.not_eq_false', ne_eq, Decidable.not_not, Option.isNone_iff_eq_none, not_true_eq_false, not_false_eq_true] at hb); try (exfalso; omega))) | (refine v_cond rfl ?_ ?_ <;> (intro hb; (try simp only [decide_eq_true_eq, decide_eq_false_iff_not, Bool.not_eq_true', Bool.not_eq_false', ne_eq, Decidable.not_not, Option.isNone_iff_eq_none, not_true_eq_false, not_false_eq_true] at hb); try (exfalso; omega))) | fail)
      (refine v_draw0 [] (by kernel_rfl) ?_ <;> (refine va_takeA 0 rfl rfl rfl rfl ?_) <;> (refine va_takeA 1 rfl rfl rfl rfl ?_) <;> (refine va_takeA 2 rfl rfl rfl rfl ?_) <;> (refine va_takeA 3 rfl rfl rfl rfl ?_) <;> (refine va_takeA 4 rfl rfl rfl rfl ?_) <;> (refine va_takeA 5 rfl rfl rfl rfl ?_) <;> (first | refine va_takeGA 6 rfl rfl rfl rfl rfl rfl rfl rfl ?_ | refine va_passGA 6 rfl rfl rfl rfl rfl rfl rfl rfl ?_ | (refine va_caseG 6 rfl rfl rfl rfl rfl ?_ ?_ <;> (intro hb; (try simp only [decide_eq_true_eq, decide_eq_false_iff_not, Bool.not_eq_true', Bool.not_eq_false', ne_eq, Decidable.not_not, Option.isNone_iff_eq_none, not_true_eq_false, not_false_eq_true] at hb); try (exfalso; omega)) <;> first | refine va_takeGA 6 rfl rfl rfl rfl rfl rfl rfl rfl ?_ | refine va_passGA 6 rfl rfl rfl rfl rfl rfl rfl rfl ?_)) <;> (first | refine va_takeGA 7 rfl rfl rfl rfl rfl rfl rfl rfl ?_ | refine va_passGA 7 rfl rfl rfl rfl rfl rfl rfl rfl ?_ | (refine va_caseG 7 rfl rfl rfl rfl rfl ?_ ?_ <;> (intro hb; (try simp only [decide_eq_true_eq, decide_eq_false_iff_not, Bool.not_eq_true', Bool.not_eq_false', ne_eq, Decidable.not_not, Option.isNone_iff_eq_none, not_true_eq_false, not_false_eq_true] at hb); try (exfalso; omega)) <;> first | refine va_takeGA 7 rfl rfl rfl rfl rfl rfl rfl rfl ?_ | refine va_passGA 7 rfl rfl rfl rfl rfl rfl rfl rfl ?_)) <;> (first | refine va_takeGA 8 rfl rfl rfl rfl rfl rfl rfl rfl ?_ | refine va_passGA 8 rfl rfl rfl rfl rfl rfl rfl rfl ?_ | (refine va_caseG 8 rfl rfl rfl rfl rfl ?_ ?_ <;> (intro hb; (try simp only [decide_eq_true_eq, decide_eq_false_iff_not, Bool.not_eq_true', Bool.not_eq_false', ne_eq, Decidable.not_not, Option.isNone_iff_eq_none, not_true_eq_false, not_false_eq_true] at hb); try (exfalso; omega)) <;> first | refine va_takeGA 8 rfl rfl rfl rfl rfl rfl rfl rfl ?_ | refine va_passGA 8 rfl rfl rfl rfl rfl rfl rfl rfl ?_)) <;> (first | refine va_takeGA 9 rfl rfl rfl rfl rfl rfl rfl rfl ?_ | refine va_passGA 9 rfl rfl rfl rfl rfl rfl rfl rfl ?_ | (refine va_caseG 9 rfl rfl rfl rfl rfl ?_ ?_ <;> (intro hb; (try simp only [decide_eq_true_eq, decide_eq_false_iff_not, Bool.not_eq_true', Bool.not_eq_false', ne_eq, Decidable.not_not, Option.isNone_iff_eq_none, not_true_eq_false, not_false_eq_true] at hb); try (exfalso; omega)) <;> first | refine va_takeGA 9 rfl rfl rfl rfl rfl rfl rfl rfl ?_ | refine va_passGA 9 rfl rfl rfl rfl rfl rfl rfl rfl ?_)) <;> (first | refine va_takeGA 10 rfl rfl rfl rfl rfl rfl rfl rfl ?_ | refine va_passGA 10 rfl rfl rfl rfl rfl rfl rfl rfl ?_ | (refine va_caseG 10 rfl rfl rfl rfl rfl ?_ ?_ <;> (intro hb; (try simp only [decide_eq_true_eq, decide_eq_false_iff_not, Bool.not_eq_true', Bool.not_eq_false', ne_eq, Decidable.not_not, Option.isNone_iff_eq_none, not_true_eq_false, not_false_eq_true] at hb); try (exfalso; omega)) <;> first | refine va_takeGA 10 rfl rfl rfl rfl rfl rfl rfl rfl ?_ | refine va_passGA 10 rfl rfl rfl rfl rfl rfl rfl rfl ?_)) <;> (refine va_takeA 11 rfl rfl rfl rfl ?_) <;> (refine va_takeA 12 rfl rfl rfl rfl ?_) <;> (first | refine va_takeGA 13 rfl rfl rfl rfl rfl rfl rfl rfl ?_ | refine va_passGA 13 rfl rfl rfl rfl rfl rfl rfl rfl ?_ | (refine va_caseG 13 rfl rfl rfl rfl rfl ?_ ?_ <;> (intro hb; (try simp only [decide_eq_true_eq, decide_eq_false_iff_not, Bool.not_eq_true', Bool.not_eq_false', ne_eq, Decidable.not_not, Option.isNone_iff_eq_none, not_true_eq_false, not_false_eq_true] at hb); try (exfalso; omega)) <;> first | refine va_takeGA 13 rfl rfl rfl rfl rfl rfl rfl rfl ?_ | refine va_passGA 13 rfl rfl rfl rfl rfl rfl rfl rfl ?_)) <;> (first | refine va_takeGA 14 rfl rfl rfl rfl rfl rfl rfl rfl ?_ | refine va_passGA 14 rfl rfl rfl rfl rfl rfl rfl rfl ?_ | (refine va_caseG 14 rfl rfl rfl rfl rfl ?_ ?_ <;> (intro hb; (try simp only [decide_eq_true_eq, decide_eq_false_iff_not, Bool.not_eq_true', Bool.not_eq_false', ne_eq, Decidable.not_not, Option.isNone_iff_eq_none, not_true_eq_false, not_false_eq_true] at hb); try (exfalso; omega)) <;> first | refine va_takeGA 14 rfl rfl rfl rfl rfl rfl rfl rfl ?_ | refine va_passGA 14 rfl rfl rfl rfl rfl rfl rfl rfl ?_)) <;> (first | refine va_takeGA 15 rfl rfl rfl rfl rfl rfl rfl rfl ?_ | refine va_passGA 15 rfl rfl rfl rfl rfl rfl rfl rfl ?_ | (refine va_caseG 15 rfl rfl rfl rfl rfl ?_ ?_ <;> (intro hb; (try simp only [decide_eq_true_eq, decide_eq_false_iff_not, Bool.not_eq_true', Bool.not_eq_false', ne_eq, Decidable.not_not, Option.isNone_iff_eq_none, not_true_eq_false, not_false_eq_true] at hb); try (exfalso; omega)) <;> first | refine va_takeGA 15 rfl rfl rfl rfl rfl rfl rfl rfl ?_ | refine va_passGA 15 rfl rfl rfl rfl rfl rfl rfl rfl ?_)) <;> (first | refine va_takeGA 16 rfl rfl rfl rfl rfl rfl rfl rfl ?_ | refine va_passGA 16 rfl rfl rfl rfl rfl rfl rfl rfl ?_ | (refine va_caseG 16 rfl rfl rfl rfl rfl ?_ ?_ <;> (intro hb; (try simp only [decide_eq_true_eq, decide_eq_false_iff_not, Bool.not_eq_true', Bool.not_eq_false', ne_eq, Decidable.not_not, Option.isNone_iff_eq_none, not_true_eq_false, not_false_eq_true] at hb); try (exfalso; omega)) <;> first | refine va_takeGA 16 rfl rfl rfl rfl rfl rfl rfl rfl ?_ | refine va_passGA 16 rfl rfl rfl rfl rfl rfl rfl rfl ?_)))
      all_goals first | (exact absurd hb q1) | (exact absurd ‹x.key = y.key› q1) | (exfalso; simp at hb; done) | skip
      refine va_passGA 17 rfl rfl rfl rfl rfl rfl rfl rfl ?_
      ((refine va_takeA 18 rfl rfl rfl rfl ?_) <;> (refine va_takeA 19 rfl rfl rfl rfl ?_) <;> (first | refine va_takeGA 20 rfl rfl rfl rfl rfl rfl rfl rfl ?_ | refine va_passGA 20 rfl rfl rfl rfl rfl rfl rfl rfl ?_ | (refine va_caseG 20 rfl rfl rfl rfl rfl ?_ ?_ <;> (intro hb; (try simp only [decide_eq_true_eq, decide_eq_false_iff_not, Bool.not_eq_true', Bool.not_eq_false', ne_eq, Decidable.not_not, Option.isNone_iff_eq_none, not_true_eq_false, not_false_eq_true] at hb); try (exfalso; omega)) <;> first | refine va_takeGA 20 rfl rfl rfl rfl rfl rfl rfl rfl ?_ | refine va_passGA 20 rfl rfl rfl rfl rfl rfl rfl rfl ?_)) <;> (first | refine va_takeGA 22 rfl rfl rfl rfl rfl rfl rfl rfl ?_ | refine va_passGA 22 rfl rfl rfl rfl rfl rfl rfl rfl ?_ | (refine va_caseG 22 rfl rfl rfl rfl rfl ?_ ?_ <;> (intro hb; (try simp only [decide_eq_true_eq, decide_eq_false_iff_not, Bool.not_eq_true', Bool.not_eq_false', ne_eq, Decidable.not_not, Option.isNone_iff_eq_none, not_true_eq_false, not_false_eq_true] at hb); try (exfalso; omega)) <;> first | refine va_takeGA 22 rfl rfl rfl rfl rfl rfl rfl rfl ?_ | refine va_passGA 22 rfl rfl rfl rfl rfl rfl rfl rfl ?_)))
      refine va_passGA 21 rfl rfl rfl rfl rfl rfl rfl rfl ?_
      skip
      refine va_passGA 23 rfl rfl rfl rfl rfl rfl rfl rfl ?_
      ((first | refine va_takeGA 24 rfl rfl rfl rfl rfl rfl rfl rfl ?_ | refine va_passGA 24 rfl rfl rfl rfl rfl rfl rfl rfl ?_ | (refine va_caseG 24 rfl rfl rfl rfl rfl ?_ ?_ <;> (intro hb; (try simp only [decide_eq_true_eq, decide_eq_false_iff_not, Bool.not_eq_true', Bool.not_eq_false', ne_eq, Decidable.not_not, Option.isNone_iff_eq_none, not_true_eq_false, not_false_eq_true] at hb); try (exfalso; omega)) <;> first | refine va_takeGA 24 rfl rfl rfl rfl rfl rfl rfl rfl ?_ | refine va_passGA 24 rfl rfl rfl rfl rfl rfl rfl rfl ?_)) <;> (refine va_takeA 25 rfl rfl rfl rfl ?_) <;> (refine va_takeA 26 rfl rfl rfl rfl ?_) <;> (refine va_done (by kernel_rfl) ?_))
      repeat' (first | (refine go1 ?_; intros) | (refine vl_caseG rfl rfl rfl rfl ?_ ?_ <;> (intro hb; (try simp only [decide_eq_true_eq, decide_eq_false_iff_not, Bool.not_eq_true', Bool.not_eq_false', ne_eq, Decidable.not_not, Option.isNone_iff_eq_none, not_true_eq_false, not_false_eq_true] at hb); try (exfalso; omega))) | (refine v_cond rfl ?_ ?_ <;> (intro hb; (try simp only [decide_eq_true_eq, decide_eq_false_iff_not, Bool.not_eq_true', Bool.not_eq_false', ne_eq, Decidable.not_not, Option.isNone_iff_eq_none, not_true_eq_false, not_false_eq_true] at hb); try (exfalso; omega))) | fail)
      exact ⟨L, sei _ _ _, hno (fun e => q1 e.2.1) rfl, rfl⟩
  · repeat' (first | (refine go1 ?_; intros) | (refine vl_caseG rfl rfl rfl rfl ?_ ?_ <;> (intro hb; (try simp only [decide_eq_true_eq, decide_eq_false_iff_not, Bool.not_eq_true', Bool.not_eq_false', ne_eq, Decidable.not_not, Option.isNone_iff_eq_none, not_true_eq_false, not_false_eq_true] at hb); try (exfalso; omega))) | (refine v_cond rfl ?_ ?_ <;> (intro hb; (try simp only [decide_eq_true_eq, decide_eq_false_iff_not, Bool.not_eq_true', Bool.not_eq_false', ne_eq, Decidable.not_not, Option.isNone_iff_eq_none, not_true_eq_false, not_false_eq_true] at hb); try (exfalso; omega))) | fail)
    (refine v_draw0 [] (by kernel_rfl) ?_ <;> (refine va_takeA 0 rfl rfl rfl rfl ?_) <;> (refine va_takeA 1 rfl rfl rfl rfl ?_) <;> (refine va_takeA 2 rfl rfl rfl rfl ?_) <;> (refine va_takeA 3 rfl rfl rfl rfl ?_) <;> (refine va_takeA 4 rfl rfl rfl rfl ?_) <;> (refine va_takeA 5 rfl rfl rfl rfl ?_) <;> (first | refine va_takeGA 6 rfl rfl rfl rfl rfl rfl rfl rfl ?_ | refine va_passGA 6 rfl rfl rfl rfl rfl rfl rfl rfl ?_ | (refine va_caseG 6 rfl rfl rfl rfl rfl ?_ ?_ <;> (intro hb; (try simp only [decide_eq_true_eq, decide_eq_false_iff_not, Bool.not_eq_true', Bool.not_eq_false', ne_eq, Decidable.not_not, Option.isNone_iff_eq_none, not_true_eq_false, not_false_eq_true] at hb); try (exfalso; omega)) <;> first | refine va_takeGA 6 rfl rfl rfl rfl rfl rfl rfl rfl ?_ | refine va_passGA 6 rfl rfl rfl rfl rfl rfl rfl rfl ?_)) <;> (first | refine va_takeGA 7 rfl rfl rfl rfl rfl rfl rfl rfl ?_ | refine va_passGA 7 rfl rfl rfl rfl rfl rfl rfl rfl ?_ | (refine va_caseG 7 rfl rfl rfl rfl rfl ?_ ?_ <;> (intro hb; (try simp only [decide_eq_true_eq, decide_eq_false_iff_not, Bool.not_eq_true', Bool.not_eq_false', ne_eq, Decidable.not_not, Option.isNone_iff_eq_none, not_true_eq_false, not_false_eq_true] at hb); try (exfalso; omega)) <;> first | refine va_takeGA 7 rfl rfl rfl rfl rfl rfl rfl rfl ?_ | refine va_passGA 7 rfl rfl rfl rfl rfl rfl rfl rfl ?_)) <;> (first | refine va_takeGA 8 rfl rfl rfl rfl rfl rfl rfl rfl ?_ | refine va_passGA 8 rfl rfl rfl rfl rfl rfl rfl rfl ?_ | (refine va_caseG 8 rfl rfl rfl rfl rfl ?_ ?_ <;> (intro hb; (try simp only [decide_eq_true_eq, decide_eq_false_iff_not, Bool.not_eq_true', Bool.not_eq_false', ne_eq, Decidable.not_not, Option.isNone_iff_eq_none, not_true_eq_false, not_false_eq_true] at hb); try (exfalso; omega)) <;> first | refine va_takeGA 8 rfl rfl rfl rfl rfl rfl rfl rfl ?_ | refine va_passGA 8 rfl rfl rfl rfl rfl rfl rfl rfl ?_)) <;> (first | refine va_takeGA 9 rfl rfl rfl rfl rfl rfl rfl rfl ?_ | refine va_passGA 9 rfl rfl rfl rfl rfl rfl rfl rfl ?_ | (refine va_caseG 9 rfl rfl rfl rfl rfl ?_ ?_ <;> (intro hb; (try simp only [decide_eq_true_eq, decide_eq_false_iff_not, Bool.not_eq_true', Bool.not_eq_false', ne_eq, Decidable.not_not, Option.isNone_iff_eq_none, not_true_eq_false, not_false_eq_true] at hb); try (exfalso; omega)) <;> first | refine va_takeGA 9 rfl rfl rfl rfl rfl rfl rfl rfl ?_ | refine va_passGA 9 rfl rfl rfl rfl rfl rfl rfl rfl ?_)) <;> (first | refine va_takeGA 10 rfl rfl rfl rfl rfl rfl rfl rfl ?_ | refine va_passGA 10 rfl rfl rfl rfl rfl rfl rfl rfl ?_ | (refine va_caseG 10 rfl rfl rfl rfl rfl ?_ ?_ <;> (intro hb; (try simp only [decide_eq_true_eq, decide_eq_false_iff_not, Bool.not_eq_true', Bool.not_eq_false', ne_eq, Decidable.not_not, Option.isNone_iff_eq_none, not_true_eq_false, not_false_eq_true] at hb); try (exfalso; omega)) <;> first | refine va_takeGA 10 rfl rfl rfl rfl rfl rfl rfl rfl ?_ | refine va_passGA 10 rfl rfl rfl rfl rfl rfl rfl rfl ?_)) <;> (refine va_takeA 11 rfl rfl rfl rfl ?_) <;> (refine va_takeA 12 rfl rfl rfl rfl ?_) <;> (first | refine va_takeGA 13 rfl rfl rfl rfl rfl rfl rfl rfl ?_ | refine va_passGA 13 rfl rfl rfl rfl rfl rfl rfl rfl ?_ | (refine va_caseG 13 rfl rfl rfl rfl rfl ?_ ?_ <;> (intro hb; (try simp only [decide_eq_true_eq, decide_eq_false_iff_not, Bool.not_eq_true', Bool.not_eq_false', ne_eq, Decidable.not_not, Option.isNone_iff_eq_none, not_true_eq_false, not_false_eq_true] at hb); try (exfalso; omega)) <;> first | refine va_takeGA 13 rfl rfl rfl rfl rfl rfl rfl rfl ?_ | refine va_passGA 13 rfl rfl rfl rfl rfl rfl rfl rfl ?_)) <;> (first | refine va_takeGA 14 rfl rfl rfl rfl rfl rfl rfl rfl ?_ | refine va_passGA 14 rfl rfl rfl rfl rfl rfl rfl rfl ?_ | (refine va_caseG 14 rfl rfl rfl rfl rfl ?_ ?_ <;> (intro hb; (try simp only [decide_eq_true_eq, decide_eq_false_iff_not, Bool.not_eq_true', Bool.not_eq_false', ne_eq, Decidable.not_not, Option.isNone_iff_eq_none, not_true_eq_false, not_false_eq_true] at hb); try (exfalso; omega)) <;> first | refine va_takeGA 14 rfl rfl rfl rfl rfl rfl rfl rfl ?_ | refine va_passGA 14 rfl rfl rfl rfl rfl rfl rfl rfl ?_)) <;> (first | refine va_takeGA 15 rfl rfl rfl rfl rfl rfl rfl rfl ?_ | refine va_passGA 15 rfl rfl rfl rfl rfl rfl rfl rfl ?_ | (refine va_caseG 15 rfl rfl rfl rfl rfl ?_ ?_ <;> (intro hb; (try simp only [decide_eq_true_eq, decide_eq_false_iff_not, Bool.not_eq_true', Bool.not_eq_false', ne_eq, Decidable.not_not, Option.isNone_iff_eq_none, not_true_eq_false, not_false_eq_true] at hb); try (exfalso; omega)) <;> first | refine va_takeGA 15 rfl rfl rfl rfl rfl rfl rfl rfl ?_ | refine va_passGA 15 rfl rfl rfl rfl rfl rfl rfl rfl ?_)) <;> (first | refine va_takeGA 16 rfl rfl rfl rfl rfl rfl rfl rfl ?_ | refine va_passGA 16 rfl rfl rfl rfl rfl rfl rfl rfl ?_ | (refine va_caseG 16 rfl rfl rfl rfl rfl ?_ ?_ <;> (intro hb; (try simp only [decide_eq_true_eq, decide_eq_false_iff_not, Bool.not_eq_true', Bool.not_eq_false', ne_eq, Decidable.not_not, Option.isNone_iff_eq_none, not_true_eq_false, not_false_eq_true] at hb); try (exfalso; omega)) <;> first | refine va_takeGA 16 rfl rfl rfl rfl rfl rfl rfl rfl ?_ | refine va_passGA 16 rfl rfl rfl rfl rfl rfl rfl rfl ?_)))
    all_goals first | (exact absurd (eq_of_beq hb) q0) | (exact absurd (eq_of_beq ‹(x.leaf == y.leaf) = true›) q0) | skip
    refine va_passGA 17 rfl rfl rfl rfl rfl rfl rfl rfl ?_
    ((refine va_takeA 18 rfl rfl rfl rfl ?_) <;> (refine va_takeA 19 rfl rfl rfl rfl ?_) <;> (first | refine va_takeGA 20 rfl rfl rfl rfl rfl rfl rfl rfl ?_ | refine va_passGA 20 rfl rfl rfl rfl rfl rfl rfl rfl ?_ | (refine va_caseG 20 rfl rfl rfl rfl rfl ?_ ?_ <;> (intro hb; (try simp only [decide_eq_true_eq, decide_eq_false_iff_not, Bool.not_eq_true', Bool.not_eq_false', ne_eq, Decidable.not_not, Option.isNone_iff_eq_none, not_true_eq_false, not_false_eq_true] at hb); try (exfalso; omega)) <;> first | refine va_takeGA 20 rfl rfl rfl rfl rfl rfl rfl rfl ?_ | refine va_passGA 20 rfl rfl rfl rfl rfl rfl rfl rfl ?_)) <;> (first | refine va_takeGA 22 rfl rfl rfl rfl rfl rfl rfl rfl ?_ | refine va_passGA 22 rfl rfl rfl rfl rfl rfl rfl rfl ?_ | (refine va_caseG 22 rfl rfl rfl rfl rfl ?_ ?_ <;> (intro hb; (try simp only [decide_eq_true_eq, decide_eq_false_iff_not, Bool.not_eq_true', Bool.not_eq_false', ne_eq, Decidable.not_not, Option.isNone_iff_eq_none, not_true_eq_false, not_false_eq_true] at hb); try (exfalso; omega)) <;> first | refine va_takeGA 22 rfl rfl rfl rfl rfl rfl rfl rfl ?_ | refine va_passGA 22 rfl rfl rfl rfl rfl rfl rfl rfl ?_)))
    refine va_passGA 21 rfl rfl rfl rfl rfl rfl rfl rfl ?_
    skip
    refine va_passGA 23 rfl rfl rfl rfl rfl rfl rfl rfl ?_
    ((first | refine va_takeGA 24 rfl rfl rfl rfl rfl rfl rfl rfl ?_ | refine va_passGA 24 rfl rfl rfl rfl rfl rfl rfl rfl ?_ | (refine va_caseG 24 rfl rfl rfl rfl rfl ?_ ?_ <;> (intro hb; (try simp only [decide_eq_true_eq, decide_eq_false_iff_not, Bool.not_eq_true', Bool.not_eq_false', ne_eq, Decidable.not_not, Option.isNone_iff_eq_none, not_true_eq_false, not_false_eq_true] at hb); try (exfalso; omega)) <;> first | refine va_takeGA 24 rfl rfl rfl rfl rfl rfl rfl rfl ?_ | refine va_passGA 24 rfl rfl rfl rfl rfl rfl rfl rfl ?_)) <;> (refine va_takeA 25 rfl rfl rfl rfl ?_) <;> (refine va_takeA 26 rfl rfl rfl rfl ?_) <;> (refine va_done (by kernel_rfl) ?_))
    repeat' (first | (refine go1 ?_; intros) | (refine vl_caseG rfl rfl rfl rfl ?_ ?_ <;> (intro hb; (try simp only [decide_eq_true_eq, decide_eq_false_iff_not, Bool.not_eq_true', Bool.not_eq_false', ne_eq, Decidable.not_not, Option.isNone_iff_eq_none, not_true_eq_false, not_false_eq_true] at hb); try (exfalso; omega))) | (refine v_cond rfl ?_ ?_ <;> (intro hb; (try simp only [decide_eq_true_eq, decide_eq_false_iff_not, Bool.not_eq_true', Bool.not_eq_false', ne_eq, Decidable.not_not, Option.isNone_iff_eq_none, not_true_eq_false, not_false_eq_true] at hb); try (exfalso; omega))) | fail)
    exact ⟨L, sei _ _ _, hno (fun e => q0 e.1) rfl, rfl⟩
set_option maxRecDepth 100000 in
set_option maxHeartbeats 1000000 in
theorem tsame_vc (w0 : World) (L : List Asn) (a : Option Addr) (c : Nat) (ns : List Nd) (r : Int) (b : Option Addr) (cb : Nat) (ms : List Nd) (s : Int) {n m : Nat} (hn : n = ns.length) (hm : m = ms.length) (hok : NsOk ns) (hom : NsOk ms) [hr : RdC w0 L a (ndc ns)] [hv : RdNs w0 L ns] [hr2 : RdC w0 L b (ndc ms)] [hv2 : RdNs w0 L ms] :
    VC Tryd.prog w0 32 [.agg #[.slice a n c, .int .i64 r], .agg #[.slice b m cb, .int .i64 s]] L fun v L' => v = .bool (decide (r = s ∧ pls ns = pls ms)) ∧ L' = L := by
  subst hn
  subst hm
  have hlen := hok.len
  have hlen2 := hom.len
  have hno : ∀ {v : Value}, ¬ (r = s ∧ pls ns = pls ms) → v = .bool false → v = .bool (decide (r = s ∧ pls ns = pls ms)) := fun h1 h2 => by rw [h2, decide_eq_false h1]
  refine vc_ent ?_
  refine vc_in rfl rfl ?_
  by_cases hrs : r = s
  · subst hrs
    repeat' (first | (refine goE ?_; intros) | (refine vl_caseG rfl rfl rfl rfl ?_ ?_ <;> (intro hb; (try simp only [decide_eq_true_eq, decide_eq_false_iff_not, Bool.not_eq_true', Bool.not_eq_false', ne_eq, Decidable.not_not, Option.isNone_iff_eq_none, not_true_eq_false, not_false_eq_true] at hb); try (exfalso; omega))) | (refine v_cond rfl ?_ ?_ <;> (intro hb; (try simp only [decide_eq_true_eq, decide_eq_false_iff_not, Bool.not_eq_true', Bool.not_eq_false', ne_eq, Decidable.not_not, Option.isNone_iff_eq_none, not_true_eq_false, not_false_eq_true] at hb); try (exfalso; omega))) | fail)
    rename_i ga gb
    refine vl_o rfl (vo_call rfl rfl ?_)
    refine vc_mono (R := fun v L' => v = .bool (decide (pls ns = pls ms)) ∧ L' = blk gb 24 [.slice b ms.length cb, .int .i64 r] :: blk ga 24 [.slice a ns.length c, .int .i64 r] :: L) ?_ ?_
    · refine vc_ent ?_
      refine vc_in rfl rfl ?_
      repeat' (first | (refine goN ?_; intros) | (refine vl_caseG rfl rfl rfl rfl ?_ ?_ <;> (intro hb; (try simp only [decide_eq_true_eq, decide_eq_false_iff_not, Bool.not_eq_true', Bool.not_eq_false', ne_eq, Decidable.not_not, Option.isNone_iff_eq_none, not_true_eq_false, not_false_eq_true] at hb); try (exfalso; omega))) | (refine v_cond rfl ?_ ?_ <;> (intro hb; (try simp only [decide_eq_true_eq, decide_eq_false_iff_not, Bool.not_eq_true', Bool.not_eq_false', ne_eq, Decidable.not_not, Option.isNone_iff_eq_none, not_true_eq_false, not_false_eq_true] at hb); try (exfalso; omega))) | fail)
      · exact ⟨_, sei _ _ _, by rw [decide_eq_false (pls_nel (by omega))], rfl⟩
      have hl : ns.length = ms.length := by omega
      refine v_loopS Nat [0, 1, 2, 15, 16] rfl (fun i => [(17, .int .i64 i)]) (fun i => i ≤ ns.length ∧ (pls ns).take i = (pls ms).take i) (fun i => ns.length - i) 0 ⟨Nat.zero_le _, by simp⟩ (by (repeat' (first | exact Sub.nil _ | refine Sub.cons rfl rfl ?_ | refine Sub.cons rfl ?_ ?_))) (fun i ⟨hi, he⟩ => ?_)
      by_cases hlt : i < ns.length
      · have hlt2 : i < ms.length := by omega
        have e := hok.e i hlt
        have hpos := hok.pos i hlt
        have hk := hok.k32at i hlt
        have e2 := hom.e i hlt2
        have hpos2 := hom.pos i hlt2
        have hk2 := hom.k32at i hlt2
        haveI := hv.at i hlt
        haveI := hv2.at i hlt2
        have hstep := pls_step hlt hlt2 he
        have hne := pls_ne hlt hlt2
        have hvl := hok.vlat i hlt
        have hc := Nd.len hk
        haveI hoc : OC ns[i].cells := oc_nd _
        have hd := Nd.len hk2
        haveI hod : OC ms[i].cells := oc_nd _
        have hS := fun L (h1 : RdC w0 L ns[i].a (bvs ns[i].v)) (h2 : RdC w0 L ms[i].a (bvs ms[i].v)) => tsame1_vc w0 L ns[i] ms[i] hk hk2 hvl
        generalize ns[i] = x at *
        generalize ms[i] = y at *
        generalize x.cells = cs at *
        generalize y.cells = ds at *
        repeat' (first | (refine goN ?_; intros) | (refine vl_caseG rfl rfl rfl rfl ?_ ?_ <;> (intro hb; (try simp only [decide_eq_true_eq, decide_eq_false_iff_not, Bool.not_eq_true', Bool.not_eq_false', ne_eq, Decidable.not_not, Option.isNone_iff_eq_none, not_true_eq_false, not_false_eq_true] at hb); try (exfalso; omega))) | (refine v_cond rfl ?_ ?_ <;> (intro hb; (try simp only [decide_eq_true_eq, decide_eq_false_iff_not, Bool.not_eq_true', Bool.not_eq_false', ne_eq, Decidable.not_not, Option.isNone_iff_eq_none, not_true_eq_false, not_false_eq_true] at hb); try (exfalso; omega))) | fail)
        refine vl_o rfl (vo_callV rfl rfl rfl ?_)
        refine vc_mono (hS _ inferInstance inferInstance) ?_
        rintro v L' ⟨rfl, rfl⟩
        by_cases hs : x.pl = y.pl
        · rw [decide_eq_true hs]
          repeat' (first | (refine go1 ?_; intros) | (refine vl_caseG rfl rfl rfl rfl ?_ ?_ <;> (intro hb; (try simp only [decide_eq_true_eq, decide_eq_false_iff_not, Bool.not_eq_true', Bool.not_eq_false', ne_eq, Decidable.not_not, Option.isNone_iff_eq_none, not_true_eq_false, not_false_eq_true] at hb); try (exfalso; omega))) | (refine v_cond rfl ?_ ?_ <;> (intro hb; (try simp only [decide_eq_true_eq, decide_eq_false_iff_not, Bool.not_eq_true', Bool.not_eq_false', ne_eq, Decidable.not_not, Option.isNone_iff_eq_none, not_true_eq_false, not_false_eq_true] at hb); try (exfalso; omega))) | fail)
          exact ⟨rfl, i + 1, ⟨by omega, hstep hs⟩, by omega, by (repeat' (first | exact Sub.nil _ | refine Sub.cons rfl rfl ?_ | refine Sub.cons rfl ?_ ?_)), sei _ _ _⟩
        · rw [decide_eq_false hs]
          repeat' (first | (refine go1 ?_; intros) | (refine vl_caseG rfl rfl rfl rfl ?_ ?_ <;> (intro hb; (try simp only [decide_eq_true_eq, decide_eq_false_iff_not, Bool.not_eq_true', Bool.not_eq_false', ne_eq, Decidable.not_not, Option.isNone_iff_eq_none, not_true_eq_false, not_false_eq_true] at hb); try (exfalso; omega))) | (refine v_cond rfl ?_ ?_ <;> (intro hb; (try simp only [decide_eq_true_eq, decide_eq_false_iff_not, Bool.not_eq_true', Bool.not_eq_false', ne_eq, Decidable.not_not, Option.isNone_iff_eq_none, not_true_eq_false, not_false_eq_true] at hb); try (exfalso; omega))) | fail)
          exact ⟨_, sei _ _ _, by rw [decide_eq_false (hne hs)], rfl⟩
      · obtain rfl : i = ns.length := by omega
        repeat' (first | (refine go1 ?_; intros) | (refine vl_caseG rfl rfl rfl rfl ?_ ?_ <;> (intro hb; (try simp only [decide_eq_true_eq, decide_eq_false_iff_not, Bool.not_eq_true', Bool.not_eq_false', ne_eq, Decidable.not_not, Option.isNone_iff_eq_none, not_true_eq_false, not_false_eq_true] at hb); try (exfalso; omega))) | (refine v_cond rfl ?_ ?_ <;> (intro hb; (try simp only [decide_eq_true_eq, decide_eq_false_iff_not, Bool.not_eq_true', Bool.not_eq_false', ne_eq, Decidable.not_not, Option.isNone_iff_eq_none, not_true_eq_false, not_false_eq_true] at hb); try (exfalso; omega))) | fail)
        refine ⟨_, sei _ _ _, ?_, rfl⟩
        rw [List.take_of_length_le (by simp), List.take_of_length_le (by simp; omega)] at he
        rw [decide_eq_true he]
    rintro v L' ⟨rfl, rfl⟩
    by_cases hp : pls ns = pls ms
    · rw [decide_eq_true hp]
      repeat' (first | (refine go1 ?_; intros) | (refine vl_caseG rfl rfl rfl rfl ?_ ?_ <;> (intro hb; (try simp only [decide_eq_true_eq, decide_eq_false_iff_not, Bool.not_eq_true', Bool.not_eq_false', ne_eq, Decidable.not_not, Option.isNone_iff_eq_none, not_true_eq_false, not_false_eq_true] at hb); try (exfalso; omega))) | (refine v_cond rfl ?_ ?_ <;> (intro hb; (try simp only [decide_eq_true_eq, decide_eq_false_iff_not, Bool.not_eq_true', Bool.not_eq_false', ne_eq, Decidable.not_not, Option.isNone_iff_eq_none, not_true_eq_false, not_false_eq_true] at hb); try (exfalso; omega))) | fail)
      exact ⟨L, sei _ _ _, by rw [decide_eq_true ⟨rfl, hp⟩], rfl⟩
    · rw [decide_eq_false hp]
      repeat' (first | (refine go1 ?_; intros) | (refine vl_caseG rfl rfl rfl rfl ?_ ?_ <;> (intro hb; (try simp only [decide_eq_true_eq, decide_eq_false_iff_not, Bool.not_eq_true', Bool.not_eq_false', ne_eq, Decidable.not_not, Option.isNone_iff_eq_none, not_true_eq_false, not_false_eq_true] at hb); try (exfalso; omega))) | (refine v_cond rfl ?_ ?_ <;> (intro hb; (try simp only [decide_eq_true_eq, decide_eq_false_iff_not, Bool.not_eq_true', Bool.not_eq_false', ne_eq, Decidable.not_not, Option.isNone_iff_eq_none, not_true_eq_false, not_false_eq_true] at hb); try (exfalso; omega))) | fail)
      exact ⟨L, sei _ _ _, hno (fun e => hp e.2) rfl, rfl⟩
  · repeat' (first | (refine goE ?_; intros) | (refine vl_caseG rfl rfl rfl rfl ?_ ?_ <;> (intro hb; (try simp only [decide_eq_true_eq, decide_eq_false_iff_not, Bool.not_eq_true', Bool.not_eq_false', ne_eq, Decidable.not_not, Option.isNone_iff_eq_none, not_true_eq_false, not_false_eq_true] at hb); try (exfalso; omega))) | (refine v_cond rfl ?_ ?_ <;> (intro hb; (try simp only [decide_eq_true_eq, decide_eq_false_iff_not, Bool.not_eq_true', Bool.not_eq_false', ne_eq, Decidable.not_not, Option.isNone_iff_eq_none, not_true_eq_false, not_false_eq_true] at hb); try (exfalso; omega))) | fail)
    all_goals first | (exact absurd hb hrs) | exact ⟨L, sei _ _ _, hno (fun e => hrs e.1) rfl, rfl⟩
end Go.Proofs.YtmaimkbppnpbnaaDoor
