/-
  Whether two replies are the same (the program's).
-/
import Derived.Test.YtgffejpcldeklaaWirL
set_option linter.unusedVariables false
set_option linter.unusedSimpArgs false
set_option linter.unusedSectionVars false

namespace Go.Proofs.Ytgffejpcldeklaa
open Go Go.RowKit
open Classical

/-- Two proofs of one content; two replies. -/
def Prf.eqv (p q : Prf) : Prop := p.key = q.key ∧ p.kind = q.kind ∧ p.other = q.other ∧ p.vl = q.vl ∧ p.pl = q.pl
def Rp.same (r o : Rp) : Prop := r.prf.eqv o.prf ∧ r.kind = o.kind ∧ r.code = o.code ∧ r.height = o.height ∧ r.dig = o.dig ∧ (r.nonce = o.nonce ∧ r.bal = o.bal) ∧ r.rc = o.rc ∧ r.sub = o.sub ∧ (r.gap = o.gap ∧ r.ev = o.ev)
set_option maxRecDepth 100000 in
set_option maxHeartbeats 4000000 in
theorem wsame_vc (w0 : World) (L : List Asn) (r o : Rp) (h : r.ok) (k : o.ok) [hr : RdC w0 L r.prf.va (bvs r.prf.vl)] [hq : RdC w0 L o.prf.va (bvs o.prf.vl)] [hr2 : RdC w0 L r.prf.pa (bvs r.prf.pl.flatten)] [hq2 : RdC w0 L o.prf.pa (bvs o.prf.pl.flatten)] :
    VC Try.prog w0 12 [.agg r.cells.toArray, .agg o.cells.toArray] L fun v L' => v = .bool (decide (r.same o)) ∧ L' = L := by
  have hcl := Rp.len h
  have f0 := Rp.f0 h
  have f1 := Rp.f1 h
  have f2 := Rp.f2 h
  have f3 := Rp.f3 h
  have f4 := Rp.f4 h
  have f5 := Rp.f5 h
  have f6 := Rp.f6 h
  have f7 := Rp.f7 h
  have f8 := Rp.f8 h
  have kcl := Rp.len k
  have k0 := Rp.f0 k
  have k1 := Rp.f1 k
  have k2 := Rp.f2 k
  have k3 := Rp.f3 k
  have k4 := Rp.f4 k
  have k5 := Rp.f5 k
  have k6 := Rp.f6 k
  have k7 := Rp.f7 k
  have k8 := Rp.f8 k
  have hpl := Prf.len h.prf
  have kpl := Prf.len k.prf
  have hrl := Rec.len h.rc
  have krl := Rec.len k.rc
  have hdl := h.dig
  have kdl := k.dig
  have hil : (Value.bool r.gap :: r.ev.cells).length = 101 := by simp [Evt.len h.hd]
  have kil : (Value.bool o.gap :: o.ev.cells).length = 101 := by simp [Evt.len k.hd]
  haveI hoc : OC r.cells := oc_rp r
  haveI koc : OC o.cells := oc_rp o
  have hitf := it_fits r.gap h.hd
  have kitf := it_fits o.gap k.hd
  have hrcf := Rec.fitsR h.rc
  have krcf := Rec.fitsR k.rc
  have hiti : Value.bool r.gap :: r.ev.cells = Value.bool o.gap :: o.ev.cells ↔ r.gap = o.gap ∧ r.ev = o.ev := by
    rw [List.cons.injEq, Evt.inj h.hd k.hd]
    simp
  have hrci := Rec.injR h.rc k.rc
  have haci : ([.int .u64 r.nonce, .int .u64 r.bal] : List Value) = [.int .u64 o.nonce, .int .u64 o.bal] ↔ r.nonce = o.nonce ∧ r.bal = o.bal := by
    simp only [List.cons.injEq, Value.int.injEq, true_and, and_true]
    omega
  refine vc_ent ?_
  refine vc_in rfl rfl ?_
  generalize r.cells = rcs at *
  generalize o.cells = ocs at *
  generalize hri : Value.bool r.gap :: r.ev.cells = ri at *
  generalize hoi : Value.bool o.gap :: o.ev.cells = oi at *
  repeat' (first | (refine go1 ?_; intros) | (refine goCC ?_ ?_ <;> (intro hb; (try simp only [hSQ] at hb); try (exfalso; omega))) | fail)
  refine clV ?_
  refine vc_mono (samep_vc w0 _ r.prf o.prf h.prf k.prf) ?_
  rintro v L' ⟨rfl, rfl⟩
  by_cases hp : r.prf.key = o.prf.key ∧ r.prf.kind = o.prf.kind ∧ r.prf.other = o.prf.other ∧ r.prf.vl = o.prf.vl ∧ r.prf.pl = o.prf.pl
  rotate_left
  · rw [decide_eq_false hp]
    repeat' (first | (refine go1 ?_; intros) | (refine goCC ?_ ?_ <;> (intro hb; (try simp only [hSQ] at hb); try (exfalso; omega))) | fail)
    exact ⟨_, sei _ _ L, by rw [decide_eq_false (fun e => hp e.1)], rfl⟩
  rw [decide_eq_true hp]
  repeat' (first | (refine go1 ?_; intros) | (refine goCC ?_ ?_ <;> (intro hb; (try simp only [hSQ] at hb); try (exfalso; omega))) | fail)
  all_goals first | (refine ⟨_, sei _ _ L, congrArg Value.bool (decide_eq_false (p := Rp.same r o) (fun e => ?_)).symm, rfl⟩; obtain ⟨e1, e2, e3, e4, e5, e6, e7, e8, e9⟩ := e; first | exact hb (by rw [e2]) | exact hb e3 | exact hb e4 | exact hb e5 | exact hb e6 | exact hb e7 | exact hb e8 | exact hb e9) | skip
  refine vl_q rfl rfl rfl rfl (vq_eqCells rfl rfl (acc_fits _ _) (acc_fits _ _) haci) ?_
  repeat' (first | (refine go1 ?_; intros) | (refine goCC ?_ ?_ <;> (intro hb; (try simp only [hSQ] at hb); try (exfalso; omega))) | fail)
  all_goals first | (refine ⟨_, sei _ _ L, congrArg Value.bool (decide_eq_false (p := Rp.same r o) (fun e => ?_)).symm, rfl⟩; obtain ⟨e1, e2, e3, e4, e5, e6, e7, e8, e9⟩ := e; first | exact hb (by rw [e2]) | exact hb e3 | exact hb e4 | exact hb e5 | exact hb e6 | exact hb e7 | exact hb e8 | exact hb e9) | skip
  refine vl_q rfl rfl rfl rfl (vq_eqCells rfl rfl hrcf krcf hrci) ?_
  repeat' (first | (refine go1 ?_; intros) | (refine goCC ?_ ?_ <;> (intro hb; (try simp only [hSQ] at hb); try (exfalso; omega))) | fail)
  all_goals first | (refine ⟨_, sei _ _ L, congrArg Value.bool (decide_eq_false (p := Rp.same r o) (fun e => ?_)).symm, rfl⟩; obtain ⟨e1, e2, e3, e4, e5, e6, e7, e8, e9⟩ := e; first | exact hb (by rw [e2]) | exact hb e3 | exact hb e4 | exact hb e5 | exact hb e6 | exact hb e7 | exact hb e8 | exact hb e9) | skip
  refine vl_q rfl rfl rfl rfl (vq_eqCells rfl rfl hitf kitf hiti) ?_
  repeat' (first | (refine go1 ?_; intros) | (refine goCC ?_ ?_ <;> (intro hb; (try simp only [hSQ] at hb); try (exfalso; omega))) | fail)
  rename_i b1 b2 b3 b4 b5 b6 b7
  have c1 : r.kind = o.kind := UInt8.toNat_inj.1 (by omega)
  exact ⟨_, sei _ _ L, congrArg Value.bool (decide_eq_decide.2 ⟨fun e => ⟨hp, c1, b3, b4, b5, b6, b7, hb, e⟩, fun e => e.2.2.2.2.2.2.2.2⟩), rfl⟩
end Go.Proofs.Ytgffejpcldeklaa
