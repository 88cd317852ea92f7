/-
  A request's parts, as the program makes them.
-/
import Derived.Test.YtcpcbgfnglnkcaaDoorGHC
set_option linter.unusedVariables false
set_option linter.unusedSimpArgs false
set_option linter.unusedSectionVars false

namespace Go.Proofs.YtcpcbgfnglnkcaaDoor
open Go Go.RowKit
open Classical

theorem wheight_vc (w0 : World) (L : List Asn) (p : Option Addr) :
    VC Tryd.prog w0 31 [.pointer p] L fun v L' => v = .iface 70 (.agg #[.pointer p, .int .i64 8, .int .i64 1073741824]) ∧ L' = L := by
  refine vc_ent ?_
  refine vc_in rfl rfl ?_
  repeat' (first | (refine go1 ?_; intros) | (refine goCC ?_ ?_ <;> (intro hb; (try simp only [hSQ] at hb); try (exfalso; omega))) | fail)
  refine vl_q rfl rfl rfl rfl (vq_mkIface rfl) ?_
  repeat' (first | (refine go1 ?_; intros) | (refine goCC ?_ ?_ <;> (intro hb; (try simp only [hSQ] at hb); try (exfalso; omega))) | fail)
  exact ⟨L, sei _ _ _, rfl, rfl⟩
theorem wsub_vc (w0 : World) (L : List Asn) (p : Option Addr) :
    VC Tryd.prog w0 34 [.pointer p] L fun v L' => v = .iface 70 (.agg #[.pointer p, .int .i64 4, .int .i64 1073741823]) ∧ L' = L := by
  refine vc_ent ?_
  refine vc_in rfl rfl ?_
  repeat' (first | (refine go1 ?_; intros) | (refine goCC ?_ ?_ <;> (intro hb; (try simp only [hSQ] at hb); try (exfalso; omega))) | fail)
  refine vl_q rfl rfl rfl rfl (vq_mkIface rfl) ?_
  repeat' (first | (refine go1 ?_; intros) | (refine goCC ?_ ?_ <;> (intro hb; (try simp only [hSQ] at hb); try (exfalso; omega))) | fail)
  exact ⟨L, sei _ _ _, rfl, rfl⟩
abbrev askM (gp g : Nat) (a : Ask) (L : List Asn) : List Asn := blk gp 77 [.pointer (some ⟨g, 0, none⟩)] :: blk g 55 a.cells :: L
/-- A part as the program makes it. -/
def Pt.val (g gp : Nat) : Pt → Value
  | .h => .iface 70 (.agg #[.pointer (some ⟨g, 0 + 132, none⟩), .int .i64 8, .int .i64 1073741824])
  | .s => .iface 70 (.agg #[.pointer (some ⟨g, 0 + 133, none⟩), .int .i64 4, .int .i64 1073741823])
  | .d => .iface 85 (.agg #[.pointer (some ⟨g, 0 + 100, none⟩)])
  | .t => .iface 92 (.agg #[.func (.func 51) #[] #[.pointer (some ⟨gp, 0, none⟩)], .func (.func 49) #[] #[.pointer (some ⟨gp, 0, none⟩)], .int .i64 120])
abbrev ownPt (ap : Option Addr) (cp g gp : Nat) (ps : List Pt) : Asn := own 82 1 ap ps.length cp (ps.map (Pt.val g gp))
instance oc_iface (t : TypeId) (v : Value) (vs : List Value) [h : OC vs] : OC (.iface t v :: vs) := ⟨by intro u hu; rcases List.mem_cons.1 hu with rfl | hu; rfl; exact h.out u hu⟩
instance oc_funcW (f : Fn) (a b : Array Value) (vs : List Value) [h : OC vs] : OC (.func f a b :: vs) := ⟨by intro u hu; rcases List.mem_cons.1 hu with rfl | hu; rfl; exact h.out u hu⟩
def RAsks (w0 : World) (L : List Asn) (g : Nat) (a : Ask) (v : Value) (L' : List Asn) : Prop := ∃ ap cp gp, v = .tuple #[.slice ap (ptsOf a.kind).length cp, .bool (okK a.kind)] ∧ L' = ownPt ap cp g gp (ptsOf a.kind) :: askM gp g a L
set_option maxRecDepth 100000 in
set_option maxHeartbeats 2000000 in
theorem wasks_vc (w0 : World) (L : List Asn) (g : Nat) (a : Ask) (h : a.ok) :
    VC Tryd.prog w0 22 [.pointer (some ⟨g, 0, none⟩)] (blk g 55 a.cells :: L) (RAsks w0 L g a) := by
  have f0 := Ask.f0 h
  have hcl := Ask.len h
  have hkb := a.kind.toNat_lt
  refine vc_ent ?_
  refine vc_in rfl rfl ?_
  unfold RAsks askM
  generalize a.cells = cs at *
  by_cases k1 : a.kind.toNat = 1
  · have ep : ptsOf a.kind = [.t] := by unfold ptsOf; rw [if_pos k1]
    have hok : okK a.kind = true := decide_eq_true (by omega)
    rw [ep, hok]
    repeat' (first | (refine go1 ?_; intros) | (refine goCC ?_ ?_ <;> (intro hb; (try simp only [hSQ] at hb); try (exfalso; omega))) | fail)
    refine vl_q rfl rfl rfl rfl (vq_mkIface rfl) ?_
    repeat' (first | (refine go1 ?_; intros) | (refine goCC ?_ ?_ <;> (intro hb; (try simp only [hSQ] at hb); try (exfalso; omega))) | fail)
    exact ⟨_, Ent.refl _ _, _, _, _, rfl, rfl⟩
  by_cases k2 : a.kind.toNat = 2 ∨ a.kind.toNat = 3
  · have ep : ptsOf a.kind = [.d] := by unfold ptsOf; rw [if_neg k1, if_pos k2]
    have hok : okK a.kind = true := decide_eq_true (by omega)
    rw [ep, hok]
    repeat' (first | (refine go1 ?_; intros) | (refine goCC ?_ ?_ <;> (intro hb; (try simp only [hSQ] at hb); try (exfalso; omega))) | fail)
    all_goals first | (exfalso; omega) | skip
    · refine vl_q rfl rfl rfl rfl (vq_mkIface rfl) ?_
      repeat' (first | (refine go1 ?_; intros) | (refine goCC ?_ ?_ <;> (intro hb; (try simp only [hSQ] at hb); try (exfalso; omega))) | fail)
      exact ⟨_, Ent.refl _ _, _, _, _, rfl, rfl⟩
    · refine vl_q rfl rfl rfl rfl (vq_mkIface rfl) ?_
      repeat' (first | (refine go1 ?_; intros) | (refine goCC ?_ ?_ <;> (intro hb; (try simp only [hSQ] at hb); try (exfalso; omega))) | fail)
      exact ⟨_, Ent.refl _ _, _, _, _, rfl, rfl⟩
  by_cases k4 : a.kind.toNat = 4
  · have ep : ptsOf a.kind = [.h, .d] := by unfold ptsOf; rw [if_neg k1, if_neg k2, if_pos k4]
    have hok : okK a.kind = true := decide_eq_true (by omega)
    rw [ep, hok]
    repeat' (first | (refine go1 ?_; intros) | (refine goCC ?_ ?_ <;> (intro hb; (try simp only [hSQ] at hb); try (exfalso; omega))) | fail)
    refine v_id ?_
    refine v_draw0 [] (by kernel_rfl) ?_
    refine tA 0 ?_
    refine tA 1 ?_
    refine tA 2 ?_
    refine tA 4 ?_
    refine tA 5 ?_
    refine tA 6 ?_
    refine tA 7 ?_
    refine va_take 8 rfl rfl rfl rfl (by kernel_rfl) (fun _ _ _ _ h => h) entD (by exact vq_mkIface rfl) ?_
    refine va_one 3 (by kernel_rfl) rfl rfl ?_
    first | refine vo_call rfl rfl ?_ | refine vo_callV rfl rfl rfl ?_
    refine vc_mono (wheight_vc w0 _ _) ?_
    rintro v L' ⟨rfl, rfl⟩
    refine ⟨.inr (sei _ _ _), ?_⟩
    refine va_one 9 (by kernel_rfl) rfl rfl ?_
    (refine goV ?_; intros)
    refine ⟨.inr (sei _ _ _), ?_⟩
    refine tA 10 ?_
    refine va_done (by kernel_rfl) ?_
    skip
    all_goals skip
    repeat' (first | (refine go1 ?_; intros) | (refine goCC ?_ ?_ <;> (intro hb; (try simp only [hSQ] at hb); try (exfalso; omega))) | fail)
    exact ⟨_, Ent.refl _ _, _, _, _, rfl, rfl⟩
  by_cases k7 : a.kind.toNat = 7 ∨ a.kind.toNat = 8
  · have ep : ptsOf a.kind = [.s] := by unfold ptsOf; rw [if_neg k1, if_neg k2, if_neg k4, if_pos k7]
    have hok : okK a.kind = true := decide_eq_true (by omega)
    rw [ep, hok]
    repeat' (first | (refine go1 ?_; intros) | (refine goCC ?_ ?_ <;> (intro hb; (try simp only [hSQ] at hb); try (exfalso; omega))) | fail)
    all_goals first | (exfalso; omega) | skip
    · refine clV ?_
      refine vc_mono (wsub_vc w0 _ _) ?_
      rintro v L' ⟨rfl, rfl⟩
      repeat' (first | (refine go1 ?_; intros) | (refine goCC ?_ ?_ <;> (intro hb; (try simp only [hSQ] at hb); try (exfalso; omega))) | fail)
      exact ⟨_, Ent.refl _ _, _, _, _, rfl, rfl⟩
    · refine clV ?_
      refine vc_mono (wsub_vc w0 _ _) ?_
      rintro v L' ⟨rfl, rfl⟩
      repeat' (first | (refine go1 ?_; intros) | (refine goCC ?_ ?_ <;> (intro hb; (try simp only [hSQ] at hb); try (exfalso; omega))) | fail)
      exact ⟨_, Ent.refl _ _, _, _, _, rfl, rfl⟩
  have ep : ptsOf a.kind = [] := by unfold ptsOf; rw [if_neg k1, if_neg k2, if_neg k4, if_neg k7]
  rw [ep]
  by_cases k5 : a.kind.toNat = 5 ∨ a.kind.toNat = 6
  · have hok : okK a.kind = true := decide_eq_true (by omega)
    rw [hok]
    repeat' (first | (refine go1 ?_; intros) | (refine goCC ?_ ?_ <;> (intro hb; (try simp only [hSQ] at hb); try (exfalso; omega))) | fail)
    all_goals first | (exfalso; omega) | exact ⟨_, (se_own_nil 82 1 _).ent w0, none, 0, _, rfl, rfl⟩
  · have hok : okK a.kind = false := decide_eq_false (by omega)
    rw [hok]
    repeat' (first | (refine go1 ?_; intros) | (refine goCC ?_ ?_ <;> (intro hb; (try simp only [hSQ] at hb); try (exfalso; omega))) | fail)
    all_goals first | (exfalso; omega) | exact ⟨_, (se_own_nil 82 1 _).ent w0, none, 0, _, rfl, rfl⟩
end Go.Proofs.YtcpcbgfnglnkcaaDoor
