/-
  TreeRoads: where a key's road ends, and its sides.
-/
import Derived.Test.YtmaimkbppnpbnaaDoorTreL
import Derived.Test.YtmaimkbppnpbnaaDoorGN
import Derived.Test.YtmaimkbppnpbnaaDoorGK
set_option linter.unusedVariables false
set_option linter.unusedSimpArgs false
namespace Go.Proofs.YtmaimkbppnpbnaaDoor
open Go Go.RowKit
set_option linter.unusedVariables false
set_option linter.unusedSimpArgs false
open Classical

theorem roadN_eq {ms ns : List Nd} (e : pls ms = pls ns) (r : Int) (k : List UInt8) : roadN ms r k = roadN ns r k := by
  unfold roadN
  rw [roadD_eq e]
  by_cases h : MayP ns r
  · rw [if_pos h, if_pos ((mayP_eq e r).2 h)]
    cases (roadD ns k r.toNat 0).1 with
    | zero => rfl
    | succ m =>
      dsimp only
      have h1 : (pls ms)[m]? = (pls ns)[m]? := by rw [e]
      rw [List.getElem?_map, List.getElem?_map] at h1
      cases h2 : ms[m]? with
      | none =>
        rw [h2] at h1
        cases h3 : ns[m]? with
        | none => rfl
        | some y => rw [h3] at h1; cases h1
      | some x =>
        rw [h2] at h1
        cases h3 : ns[m]? with
        | none => rw [h3] at h1; cases h1
        | some y => rw [h3] at h1; simpa using h1
  · rw [if_neg h, if_neg (fun h2 => h ((mayP_eq e r).1 h2))]
theorem roadX_eq {ms ns : List Nd} (e : pls ms = pls ns) (r : Int) (k : List UInt8) : roadX ms r k = roadX ns r k := by
  unfold roadX
  rw [roadD_eq e]
  by_cases h : MayP ns r
  · rw [if_pos h, if_pos ((mayP_eq e r).2 h)]
  · rw [if_neg h, if_neg (fun h2 => h ((mayP_eq e r).1 h2))]
theorem mayE_eq {ms ns : List Nd} (e : pls ms = pls ns) (r : Int) : mayE ms r = mayE ns r := by
  unfold mayE
  by_cases h : MayP ns r
  · rw [if_pos h, if_pos ((mayP_eq e r).2 h)]
  · rw [if_neg h, if_neg (fun h2 => h ((mayP_eq e r).1 h2))]
set_option maxRecDepth 100000 in
set_option maxHeartbeats 4000000 in
theorem treeRoads_vc (w0 : World) [hK : RdA w0 (some ⟨0, 0, none⟩) (wds K64)] (a : Option Addr) (c : Nat) (ns : List Nd) (r : Int) (k : List UInt8) (hkey : ∀ p ∈ ns, p.key.length = 32) (hl : ns.length ≤ 9223372036854775807) (hlk : k.length = 32) [hr : RdA w0 a (ndc ns)] [hv : RdNs w0 [] ns] :
    VC Tryd.prog w0 3 [.agg #[.slice a ns.length c, .int .i64 r], .agg (bvs k).toArray] [] fun v L' => v = .bool true := by
  refine vc_in rfl rfl ?_
  repeat' (first | (refine go1 ?_; intros) | (refine vl_caseG rfl rfl rfl rfl ?_ ?_ <;> (intro hb; (try simp only [decide_eq_true_eq, decide_eq_false_iff_not, Bool.not_eq_true', Bool.not_eq_false', ne_eq, Decidable.not_not, Option.isNone_iff_eq_none, not_true_eq_false, not_false_eq_true] at hb); try (exfalso; omega))) | (refine v_cond rfl ?_ ?_ <;> (intro hb; (try simp only [decide_eq_true_eq, decide_eq_false_iff_not, Bool.not_eq_true', Bool.not_eq_false', ne_eq, Decidable.not_not, Option.isNone_iff_eq_none, not_true_eq_false, not_false_eq_true] at hb); try (exfalso; omega))) | fail)
  refine vl_o rfl (vo_call rfl rfl ?_)
  refine vc_mono (great6_vc w0 _ a c ns r 600 rfl (by decide) hkey hl) ?_
  rintro v L' ⟨b, rfl, hg, rfl⟩
  cases b with
  | true =>
    repeat' (first | (refine go1 ?_; intros) | (refine vl_caseG rfl rfl rfl rfl ?_ ?_ <;> (intro hb; (try simp only [decide_eq_true_eq, decide_eq_false_iff_not, Bool.not_eq_true', Bool.not_eq_false', ne_eq, Decidable.not_not, Option.isNone_iff_eq_none, not_true_eq_false, not_false_eq_true] at hb); try (exfalso; omega))) | (refine v_cond rfl ?_ ?_ <;> (intro hb; (try simp only [decide_eq_true_eq, decide_eq_false_iff_not, Bool.not_eq_true', Bool.not_eq_false', ne_eq, Decidable.not_not, Option.isNone_iff_eq_none, not_true_eq_false, not_false_eq_true] at hb); try (exfalso; omega))) | fail)
    exact rfl
  | false =>
  obtain ⟨hg1, hg2⟩ := hg rfl
  have hok : NsOk ns := ⟨hkey, fun p hp => by have := hg2 p hp; omega, by omega⟩
  repeat' (first | (refine go1 ?_; intros) | (refine vl_caseG rfl rfl rfl rfl ?_ ?_ <;> (intro hb; (try simp only [decide_eq_true_eq, decide_eq_false_iff_not, Bool.not_eq_true', Bool.not_eq_false', ne_eq, Decidable.not_not, Option.isNone_iff_eq_none, not_true_eq_false, not_false_eq_true] at hb); try (exfalso; omega))) | (refine v_cond rfl ?_ ?_ <;> (intro hb; (try simp only [decide_eq_true_eq, decide_eq_false_iff_not, Bool.not_eq_true', Bool.not_eq_false', ne_eq, Decidable.not_not, Option.isNone_iff_eq_none, not_true_eq_false, not_false_eq_true] at hb); try (exfalso; omega))) | fail)
  refine vl_o rfl (vo_call rfl rfl ?_)
  refine vc_mono (twin6_vc w0 _ a c ns r rfl hok) ?_
  rintro v L' ⟨a1, c1, ms, rfl, hms, rfl⟩
  have hom := hok.of_pls hms
  repeat' (first | (refine go1 ?_; intros) | (refine vl_caseG rfl rfl rfl rfl ?_ ?_ <;> (intro hb; (try simp only [decide_eq_true_eq, decide_eq_false_iff_not, Bool.not_eq_true', Bool.not_eq_false', ne_eq, Decidable.not_not, Option.isNone_iff_eq_none, not_true_eq_false, not_false_eq_true] at hb); try (exfalso; omega))) | (refine v_cond rfl ?_ ?_ <;> (intro hb; (try simp only [decide_eq_true_eq, decide_eq_false_iff_not, Bool.not_eq_true', Bool.not_eq_false', ne_eq, Decidable.not_not, Option.isNone_iff_eq_none, not_true_eq_false, not_false_eq_true] at hb); try (exfalso; omega))) | fail)
  refine vl_o rfl (vo_call rfl rfl ?_)
  refine vc_mono (troad_vc w0 _ a1 c1 ms r k rfl hom hlk) ?_
  rintro v L' ⟨x, xs, a2, c2, rfl, hx1, hx2, hx3, hx4, hx5, hx6, rfl⟩
  have hxc := Nd.len hx3
  haveI hxo : OC x.cells := oc_nd _
  repeat' (first | (refine go1 ?_; intros) | (refine vl_caseG rfl rfl rfl rfl ?_ ?_ <;> (intro hb; (try simp only [decide_eq_true_eq, decide_eq_false_iff_not, Bool.not_eq_true', Bool.not_eq_false', ne_eq, Decidable.not_not, Option.isNone_iff_eq_none, not_true_eq_false, not_false_eq_true] at hb); try (exfalso; omega))) | (refine v_cond rfl ?_ ?_ <;> (intro hb; (try simp only [decide_eq_true_eq, decide_eq_false_iff_not, Bool.not_eq_true', Bool.not_eq_false', ne_eq, Decidable.not_not, Option.isNone_iff_eq_none, not_true_eq_false, not_false_eq_true] at hb); try (exfalso; omega))) | fail)
  refine vl_o rfl (vo_call rfl rfl ?_)
  refine vc_mono (road6_vc w0 _ a c ns r k rfl hok hlk) ?_
  rintro v L' ⟨y, ys, a3, c3, rfl, hy1, hy2, hy3, hy4, hy5, hy6, rfl⟩
  have hyc := Nd.len hy3
  haveI hyo : OC y.cells := oc_nd _
  rw [roadN_eq hms, ← hy1] at hx1
  rw [roadX_eq hms, ← hy2] at hx2
  rw [mayE_eq hms]
  subst hx2
  obtain ⟨p0, p1, p2, p3, p4⟩ := pl_eq.1 hx1
  have f0 := Nd.f0 (x := x)
  have f1 := Nd.f1 hx3
  have f2 := Nd.f2 hx3
  have f3 := Nd.f3 hx3
  have f4 := Nd.f4 hx3
  have g0 := Nd.f0 (x := y)
  have g1 := Nd.f1 hy3
  have g2 := Nd.f2 hy3
  have g3 := Nd.f3 hy3
  have g4 := Nd.f4 hy3
  rw [← p0] at g0
  rw [← p1] at g1
  rw [← p3] at g3
  rw [← p4] at g4
  generalize hcs : x.cells = cs at *
  generalize hds : y.cells = ds at *
  repeat' (first | (refine goE ?_; intros) | (refine vl_caseG rfl rfl rfl rfl ?_ ?_ <;> (intro hb; (try simp only [decide_eq_true_eq, decide_eq_false_iff_not, Bool.not_eq_true', Bool.not_eq_false', ne_eq, Decidable.not_not, Option.isNone_iff_eq_none, not_true_eq_false, not_false_eq_true] at hb); try (exfalso; omega))) | (refine v_cond rfl ?_ ?_ <;> (intro hb; (try simp only [decide_eq_true_eq, decide_eq_false_iff_not, Bool.not_eq_true', Bool.not_eq_false', ne_eq, Decidable.not_not, Option.isNone_iff_eq_none, not_true_eq_false, not_false_eq_true] at hb); try (exfalso; omega))) | fail)
  refine vl_o rfl (vo_call rfl rfl ?_)
  refine vc_mono (same_vc w0 _ x.a x.c x.v y.a y.c y.v rfl rfl) ?_
  rintro v L' ⟨rfl, rfl⟩
  rw [decide_eq_true p2]
  repeat' (first | (refine goE ?_; intros) | (refine vl_caseG rfl rfl rfl rfl ?_ ?_ <;> (intro hb; (try simp only [decide_eq_true_eq, decide_eq_false_iff_not, Bool.not_eq_true', Bool.not_eq_false', ne_eq, Decidable.not_not, Option.isNone_iff_eq_none, not_true_eq_false, not_false_eq_true] at hb); try (exfalso; omega))) | (refine v_cond rfl ?_ ?_ <;> (intro hb; (try simp only [decide_eq_true_eq, decide_eq_false_iff_not, Bool.not_eq_true', Bool.not_eq_false', ne_eq, Decidable.not_not, Option.isNone_iff_eq_none, not_true_eq_false, not_false_eq_true] at hb); try (exfalso; omega))) | fail)
  refine vl_o rfl (vo_call rfl rfl ?_)
  refine vc_mono (sameD_vc w0 _ a2 c2 xs a3 c3 xs rfl rfl hx5 hx5 (by omega)) ?_
  rintro v L' ⟨rfl, rfl⟩
  rw [decide_eq_true (rfl : xs = xs)]
  repeat' (first | (refine goE ?_; intros) | (refine vl_caseG rfl rfl rfl rfl ?_ ?_ <;> (intro hb; (try simp only [decide_eq_true_eq, decide_eq_false_iff_not, Bool.not_eq_true', Bool.not_eq_false', ne_eq, Decidable.not_not, Option.isNone_iff_eq_none, not_true_eq_false, not_false_eq_true] at hb); try (exfalso; omega))) | (refine v_cond rfl ?_ ?_ <;> (intro hb; (try simp only [decide_eq_true_eq, decide_eq_false_iff_not, Bool.not_eq_true', Bool.not_eq_false', ne_eq, Decidable.not_not, Option.isNone_iff_eq_none, not_true_eq_false, not_false_eq_true] at hb); try (exfalso; omega))) | fail)
  refine v_loopF (Nat × List UInt8) [2, 5, 6, 12] rfl (fun z => [(13, .int .i64 z.1)]) (fun L z => L.set 4 (ownB x.a x.c z.2)) (fun z => z.2.length = x.v.length ∧ z.1 ≤ x.v.length) (fun z => x.v.length - z.1) (0, x.v) ⟨rfl, Nat.zero_le _⟩ (by (repeat' (first | exact Sub.nil _ | refine Sub.cons rfl rfl ?_ | refine Sub.cons rfl ?_ ?_))) (Ent.refl _ _) ?_
  rintro ⟨i2, m2⟩ ⟨hm2, hi2⟩
  dsimp only [List.set] at hm2 hi2 ⊢
  by_cases hlt2 : i2 < x.v.length
  · have hg := bvs_at m2 i2 (by omega)
    repeat' (first | (refine go1 ?_; intros) | (refine vl_caseG rfl rfl rfl rfl ?_ ?_ <;> (intro hb; (try simp only [decide_eq_true_eq, decide_eq_false_iff_not, Bool.not_eq_true', Bool.not_eq_false', ne_eq, Decidable.not_not, Option.isNone_iff_eq_none, not_true_eq_false, not_false_eq_true] at hb); try (exfalso; omega))) | (refine v_cond rfl ?_ ?_ <;> (intro hb; (try simp only [decide_eq_true_eq, decide_eq_false_iff_not, Bool.not_eq_true', Bool.not_eq_false', ne_eq, Decidable.not_not, Option.isNone_iff_eq_none, not_true_eq_false, not_false_eq_true] at hb); try (exfalso; omega))) | fail)
    (refine v_draw0 [10] (by kernel_rfl) ?_ <;> (refine va_takeA 0 rfl rfl rfl rfl ?_) <;> (refine va_takeA 1 rfl rfl rfl rfl ?_) <;> (refine va_takeA 2 rfl rfl rfl rfl ?_) <;> (refine va_takeA 3 rfl rfl rfl rfl ?_) <;> (refine va_takeA 4 rfl rfl rfl rfl ?_) <;> (refine va_takeA 5 rfl rfl rfl rfl ?_) <;> (refine va_takeA 6 rfl rfl rfl rfl ?_) <;> (refine va_takeA 7 rfl rfl rfl rfl ?_) <;> (refine va_takeA 8 rfl rfl rfl rfl ?_) <;> (refine va_takeA 9 rfl rfl rfl rfl ?_) <;> (refine va_one 10 (by kernel_rfl) rfl rfl ?_; (first | (refine vo_box rfl rfl rfl ?_; intro _) | (refine vo_alloc rfl ?_; intro _) | (refine vo_isStore ?_; first | (refine vo_isPt0 rfl ?_; refine vo_stWA rfl rfl ?_) | (refine vo_isPt rfl ?_; refine vo_stBA rfl rfl ?_) | (refine vo_stO rfl rfl (by rfl) (by first | rfl | assumption) (by first | assumption | (simp; done) | (simp; omega) | omega) rfl ?_; skip)) | (refine vo_isCall ?_; first | (refine vo_isApp ?_; first | (refine vo_append0A rfl rfl rfl ?_; intro _ _ _ _) | (refine vo_appendA rfl rfl rfl ?_; intro _ _ _ _)) | (refine vo_isCopy ?_; refine vo_copyB rfl rfl rfl (by assumption) (by assumption) (by assumption) (by assumption) ?_) | refine vo_yield rfl rfl rfl rfl rfl ?_ | refine vo_callV rfl rfl rfl (vc_in rfl rfl ?_)) | refine vo_convRow rfl rfl ?_ | (refine vo_isBs ?_; refine vo_buildSlice rfl rfl rfl (by decide) (by repeat' (first | exact trivial | rfl | assumption | refine ⟨?_, ?_⟩ | (simp; done) | (simp; omega))) (by decide) rfl ?_; intro _) | (refine vo_buildSlice0 rfl ?_; intro _) | fail); refine ⟨.inl (by kernel_rfl), ?_⟩) <;> (refine va_done (by kernel_rfl) ?_))
    repeat' (first | (refine go1 ?_; intros) | (refine vl_caseG rfl rfl rfl rfl ?_ ?_ <;> (intro hb; (try simp only [decide_eq_true_eq, decide_eq_false_iff_not, Bool.not_eq_true', Bool.not_eq_false', ne_eq, Decidable.not_not, Option.isNone_iff_eq_none, not_true_eq_false, not_false_eq_true] at hb); try (exfalso; omega))) | (refine v_cond rfl ?_ ?_ <;> (intro hb; (try simp only [decide_eq_true_eq, decide_eq_false_iff_not, Bool.not_eq_true', Bool.not_eq_false', ne_eq, Decidable.not_not, Option.isNone_iff_eq_none, not_true_eq_false, not_false_eq_true] at hb); try (exfalso; omega))) | fail)
    refine ⟨rfl, (i2 + 1, m2.set i2 (UInt8.ofNat (((m2[i2].toNat : Int) + 1) % 256).toNat)), ⟨by simpa using hm2, by omega⟩, by omega, ?_, ?_⟩
    · (repeat' (first | exact Sub.nil _ | refine Sub.cons rfl rfl ?_ | refine Sub.cons rfl ?_ ?_))
    · dsimp only
      rw [u8w, splice_b m2 i2 (by omega)]
      unfold ownB
      rw [List.length_set]
      exact Ent.refl _ _
  · repeat' (first | (refine go1 ?_; intros) | (refine vl_caseG rfl rfl rfl rfl ?_ ?_ <;> (intro hb; (try simp only [decide_eq_true_eq, decide_eq_false_iff_not, Bool.not_eq_true', Bool.not_eq_false', ne_eq, Decidable.not_not, Option.isNone_iff_eq_none, not_true_eq_false, not_false_eq_true] at hb); try (exfalso; omega))) | (refine v_cond rfl ?_ ?_ <;> (intro hb; (try simp only [decide_eq_true_eq, decide_eq_false_iff_not, Bool.not_eq_true', Bool.not_eq_false', ne_eq, Decidable.not_not, Option.isNone_iff_eq_none, not_true_eq_false, not_false_eq_true] at hb); try (exfalso; omega))) | fail)
    refine vl_o rfl (vo_call rfl rfl ?_)
    refine vc_mono (same6_vc w0 _ a1 c1 ms r a c ns r rfl rfl hom hok) ?_
    rintro v L' ⟨rfl, rfl⟩
    rw [decide_eq_true ⟨rfl, hms⟩]
    repeat' (first | (refine go1 ?_; intros) | (refine vl_caseG rfl rfl rfl rfl ?_ ?_ <;> (intro hb; (try simp only [decide_eq_true_eq, decide_eq_false_iff_not, Bool.not_eq_true', Bool.not_eq_false', ne_eq, Decidable.not_not, Option.isNone_iff_eq_none, not_true_eq_false, not_false_eq_true] at hb); try (exfalso; omega))) | (refine v_cond rfl ?_ ?_ <;> (intro hb; (try simp only [decide_eq_true_eq, decide_eq_false_iff_not, Bool.not_eq_true', Bool.not_eq_false', ne_eq, Decidable.not_not, Option.isNone_iff_eq_none, not_true_eq_false, not_false_eq_true] at hb); try (exfalso; omega))) | fail)
    exact rfl
end Go.Proofs.YtmaimkbppnpbnaaDoor
