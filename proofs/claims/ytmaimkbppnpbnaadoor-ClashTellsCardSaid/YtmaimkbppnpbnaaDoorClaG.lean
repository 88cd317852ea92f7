/-
  The first unlike inputs: the statement's law.
-/
import Derived.Test.YtmaimkbppnpbnaaDoorClaF
import Derived.Test.YtmaimkbppnpbnaaDoorTC
import Derived.Test.YtmaimkbppnpbnaaDoorGN
import Derived.Test.YtmaimkbppnpbnaaDoorTE
import Derived.Test.YtmaimkbppnpbnaaDoorGC
set_option linter.unusedVariables false
set_option linter.unusedSimpArgs false
namespace Go.Proofs.YtmaimkbppnpbnaaDoor
open Go Go.RowKit
set_option linter.unusedVariables false
set_option linter.unusedSimpArgs false
open Classical

theorem seekG_ctr (p q : Prf) : seekG p q.ct = seekG p q := by
  unfold seekG
  rw [ins_ct, may_ct, show unC p q.ct = unC p q from rfl]
theorem ofG_ct (ns : List Nd) (r : Int) (p : Prf) : ofG ns r p.ct = ofG ns r p := by
  unfold ofG
  rw [may_ct, root_ct, seekG_ctr, show p.ct.key = p.key from rfl, show ∀ q, unC q p.ct = unC q p from fun _ => rfl]
theorem ofG_eq {ms ns : List Nd} (e : pls ms = pls ns) (r : Int) (p : Prf) : ofG ms r p = ofG ns r p := by
  unfold ofG
  by_cases hm : MayP ns r
  · have hm2 : MayP ms r := (mayP_eq e r).2 hm
    rw [prfT_eq e, sum_law ms r.toNat 0 257 zb (fun _ _ => rfl) rfl hm2.right, sum_law ns r.toNat 0 257 zb (fun _ _ => rfl) rfl hm.right, forP_eq e]
    simp only [hm, hm2]
  · have hm2 : ¬ MayP ms r := fun h => hm ((mayP_eq e r).1 h)
    simp only [hm, hm2, false_and, if_false]
def Prf.at (p : Prf) (x : Option Addr × Nat × Option Addr × Nat) : Prf := ⟨p.key, p.kind, p.other, x.1, x.2.1, p.vl, x.2.2.1, x.2.2.2, p.pl⟩
theorem at_ok {p : Prf} (h : p.ok) (x : Option Addr × Nat × Option Addr × Nat) : (p.at x).ok := ⟨h.key, h.kind, h.other, h.dg, h.vl, h.pl⟩
theorem at_ct (p : Prf) (x : Option Addr × Nat × Option Addr × Nat) : (p.at x).ct = p.ct := rfl
set_option maxRecDepth 100000 in
set_option maxHeartbeats 8000000 in
theorem clashTells_vc (w0 : World) [hK : RdA w0 (some ⟨0, 0, none⟩) (wds K64)] (a : Option Addr) (c : Nat) (ns : List Nd) (r : Int) (p q : Prf) (hkey : ∀ p ∈ ns, p.key.length = 32) (hl : ns.length ≤ 9223372036854775807) (h0 : p.ok0) (k0 : q.ok0) [hr : RdA w0 a (ndc ns)] [hv : RdNs w0 [] ns] [hr1 : RdA w0 p.va (bvs p.vl)] [hr2 : RdA w0 p.pa (bvs p.pl.flatten)] [hs : RdA w0 q.va (bvs q.vl)] [hs2 : RdA w0 q.pa (bvs q.pl.flatten)] :
    VC Tryd.prog w0 13 [.agg #[.slice a ns.length c, .int .i64 r], .agg p.cells.toArray, .agg q.cells.toArray] [] fun v L' => v = .bool true := by
  have hcl := h0.len
  have kcl := k0.len
  refine vc_in rfl rfl ?_
  repeat' (first | (refine go1 ?_; intros) | ((first | refine vl_caseG rfl rfl rfl rfl ?_ ?_ | refine v_cond rfl ?_ ?_) <;> (intro hb; (try simp only [decide_eq_true_eq, decide_eq_false_iff_not, Bool.not_eq_true', Bool.not_eq_false', ne_eq, Decidable.not_not, Option.isNone_iff_eq_none, not_true_eq_false, not_false_eq_true] at hb); try (exfalso; omega))) | fail)
  refine vl_o rfl (vo_call rfl rfl ?_)
  refine vc_mono (great6_vc w0 _ a c ns r 600 rfl (by decide) hkey hl) ?_
  rintro v L' ⟨b, rfl, hg, rfl⟩
  cases b with
  | true =>
    repeat' (first | (refine go1 ?_; intros) | ((first | refine vl_caseG rfl rfl rfl rfl ?_ ?_ | refine v_cond rfl ?_ ?_) <;> (intro hb; (try simp only [decide_eq_true_eq, decide_eq_false_iff_not, Bool.not_eq_true', Bool.not_eq_false', ne_eq, Decidable.not_not, Option.isNone_iff_eq_none, not_true_eq_false, not_false_eq_true] at hb); try (exfalso; omega))) | fail)
    exact rfl
  | false =>
  obtain ⟨hg1, hg2⟩ := hg rfl
  have hok : NsOk ns := ⟨hkey, fun p hp => by have := hg2 p hp; omega, by omega⟩
  repeat' (first | (refine go1 ?_; intros) | ((first | refine vl_caseG rfl rfl rfl rfl ?_ ?_ | refine v_cond rfl ?_ ?_) <;> (intro hb; (try simp only [decide_eq_true_eq, decide_eq_false_iff_not, Bool.not_eq_true', Bool.not_eq_false', ne_eq, Decidable.not_not, Option.isNone_iff_eq_none, not_true_eq_false, not_false_eq_true] at hb); try (exfalso; omega))) | fail)
  refine vl_o rfl (vo_call rfl rfl ?_)
  refine vc_mono (great7_vc w0 _ p h0) ?_
  rintro v L' ⟨rfl, rfl⟩
  cases hb1 : decide (100 < p.vl.length ∨ 300 < p.pl.length)
  rotate_left
  · repeat' (first | (refine go1 ?_; intros) | ((first | refine vl_caseG rfl rfl rfl rfl ?_ ?_ | refine v_cond rfl ?_ ?_) <;> (intro hb; (try simp only [decide_eq_true_eq, decide_eq_false_iff_not, Bool.not_eq_true', Bool.not_eq_false', ne_eq, Decidable.not_not, Option.isNone_iff_eq_none, not_true_eq_false, not_false_eq_true] at hb); try (exfalso; omega))) | fail)
    exact rfl
  have hb1' := of_decide_eq_false hb1
  repeat' (first | (refine go1 ?_; intros) | ((first | refine vl_caseG rfl rfl rfl rfl ?_ ?_ | refine v_cond rfl ?_ ?_) <;> (intro hb; (try simp only [decide_eq_true_eq, decide_eq_false_iff_not, Bool.not_eq_true', Bool.not_eq_false', ne_eq, Decidable.not_not, Option.isNone_iff_eq_none, not_true_eq_false, not_false_eq_true] at hb); try (exfalso; omega))) | fail)
  refine vl_o rfl (vo_call rfl rfl ?_)
  refine vc_mono (great7_vc w0 _ q k0) ?_
  rintro v L' ⟨rfl, rfl⟩
  cases hb2 : decide (100 < q.vl.length ∨ 300 < q.pl.length)
  rotate_left
  · repeat' (first | (refine go1 ?_; intros) | ((first | refine vl_caseG rfl rfl rfl rfl ?_ ?_ | refine v_cond rfl ?_ ?_) <;> (intro hb; (try simp only [decide_eq_true_eq, decide_eq_false_iff_not, Bool.not_eq_true', Bool.not_eq_false', ne_eq, Decidable.not_not, Option.isNone_iff_eq_none, not_true_eq_false, not_false_eq_true] at hb); try (exfalso; omega))) | fail)
    exact rfl
  have hb2' := of_decide_eq_false hb2
  have hp : p.ok := ⟨h0.key, h0.kind, h0.other, h0.dg, by omega, by omega⟩
  have hq : q.ok := ⟨k0.key, k0.kind, k0.other, k0.dg, by omega, by omega⟩
  repeat' (first | (refine go1 ?_; intros) | ((first | refine vl_caseG rfl rfl rfl rfl ?_ ?_ | refine v_cond rfl ?_ ?_) <;> (intro hb; (try simp only [decide_eq_true_eq, decide_eq_false_iff_not, Bool.not_eq_true', Bool.not_eq_false', ne_eq, Decidable.not_not, Option.isNone_iff_eq_none, not_true_eq_false, not_false_eq_true] at hb); try (exfalso; omega))) | fail)
  rename_i gt gp gq
  refine v_cut {x : Nat × Nat × (Option Addr × Nat × List Nd) × (Option Addr × Nat × Option Addr × Nat) // pls x.2.2.1.2.2 = pls ns} [3, 4, 5, 6] rfl (fun x => [(7, .pointer (some ⟨x.1.1, 0, none⟩)), (8, .pointer (some ⟨x.1.2.1, 0, none⟩))]) (fun x => [blk x.1.1 24 [.slice x.1.2.2.1.1 x.1.2.2.1.2.2.length x.1.2.2.1.2.1, .int .i64 r], blk x.1.2.1 75 (p.at x.1.2.2.2).cells, ownNs x.1.2.2.1.1 x.1.2.2.1.2.1 x.1.2.2.1.2.2, vnA x.1.2.2.1.2.2, ownD x.1.2.2.2.2.2.1 x.1.2.2.2.2.2.2 p.pl, ownB x.1.2.2.2.1 x.1.2.2.2.2.1 p.vl, blk gq 75 q.cells, blk gp 75 p.cells, blk gt 24 [.slice a ns.length c, .int .i64 r]]) ?_ ?_
  · refine v_id ?_
    refine v_draw0 [] (by kernel_rfl) ?_
    refine va_takeA 0 rfl rfl rfl rfl ?_
    refine va_takeA 2 rfl rfl rfl rfl ?_
    refine va_three 1 4 5 (by kernel_rfl) rfl rfl rfl rfl rfl rfl ?_ ?_ ?_
    · first | refine vo_call rfl rfl ?_ | refine vo_callV rfl rfl rfl ?_
      refine vc_mono (twin6_vc w0 _ a c ns r rfl hok) ?_
      rintro v L' ⟨a1, c1, ms, rfl, hms, rfl⟩
      refine ⟨.inr (sei _ _ _), ?_⟩
      refine va_three 3 4 5 (by kernel_rfl) rfl rfl rfl rfl rfl rfl ?_ ?_ ?_
      · first | refine vo_call rfl rfl ?_ | refine vo_callV rfl rfl rfl ?_
        refine vc_mono (twin7_vc w0 _ p hp) ?_
        rintro v L' ⟨va1, vc1, pa1, pc1, rfl, rfl⟩
        have lz : (Prf.mk p.key p.kind p.other va1 vc1 p.vl pa1 pc1 p.pl).cells.length = 67 := Prf.len (at_ok hp (va1, vc1, pa1, pc1))
        refine ⟨.inr (sei _ _ _), ?_⟩
        refine va_two 4 5 (by kernel_rfl) rfl rfl rfl rfl ?_ ?_
        · refine vo_alloc rfl ?_
          intro gu
          refine ⟨.inr (sei _ _ _), ?_⟩
          refine va_one 5 (by kernel_rfl) rfl rfl ?_
          refine vo_alloc rfl ?_
          intro gv
          refine ⟨.inr (sei _ _ _), ?_⟩
          refine va_one 6 (by kernel_rfl) rfl rfl ?_
          (first | (refine vo_box rfl rfl rfl ?_; intro _) | (refine vo_alloc rfl ?_; intro _) | (refine vo_isStore ?_; first | (refine vo_isPt0 rfl ?_; refine vo_stWA rfl rfl ?_) | (refine vo_isPt rfl ?_; refine vo_stBA rfl rfl ?_) | (refine vo_stO rfl rfl (by rfl) (by first | rfl | assumption) (by first | assumption | (simp; done) | (simp; omega) | omega) rfl ?_; skip)) | (refine vo_isCall ?_; first | (refine vo_isApp ?_; first | (refine vo_append0A rfl rfl rfl ?_; intro _ _ _ _) | (refine vo_appendA rfl rfl rfl ?_; intro _ _ _ _)) | (refine vo_isCopy ?_; refine vo_copyB rfl rfl rfl (by assumption) (by assumption) (by assumption) (by assumption) ?_) | refine vo_yield rfl rfl rfl rfl rfl ?_ | refine vo_callV rfl rfl rfl (vc_in rfl rfl ?_)) | refine vo_convRow rfl rfl ?_ | (refine vo_isBs ?_; refine vo_buildSlice rfl rfl rfl (by decide) (by repeat' (first | exact trivial | rfl | assumption | refine ⟨?_, ?_⟩ | (simp; done) | (simp; omega))) (by decide) rfl ?_; intro _) | (refine vo_buildSlice0 rfl ?_; intro _) | fail)
          refine ⟨.inr (sei _ _ _), ?_⟩
          refine va_one 7 (by kernel_rfl) rfl rfl ?_
          (first | (refine vo_box rfl rfl rfl ?_; intro _) | (refine vo_alloc rfl ?_; intro _) | (refine vo_isStore ?_; first | (refine vo_isPt0 rfl ?_; refine vo_stWA rfl rfl ?_) | (refine vo_isPt rfl ?_; refine vo_stBA rfl rfl ?_) | (refine vo_stO rfl rfl (by rfl) (by first | rfl | assumption) (by first | assumption | (simp; done) | (simp; omega) | omega) rfl ?_; skip)) | (refine vo_isCall ?_; first | (refine vo_isApp ?_; first | (refine vo_append0A rfl rfl rfl ?_; intro _ _ _ _) | (refine vo_appendA rfl rfl rfl ?_; intro _ _ _ _)) | (refine vo_isCopy ?_; refine vo_copyB rfl rfl rfl (by assumption) (by assumption) (by assumption) (by assumption) ?_) | refine vo_yield rfl rfl rfl rfl rfl ?_ | refine vo_callV rfl rfl rfl (vc_in rfl rfl ?_)) | refine vo_convRow rfl rfl ?_ | (refine vo_isBs ?_; refine vo_buildSlice rfl rfl rfl (by decide) (by repeat' (first | exact trivial | rfl | assumption | refine ⟨?_, ?_⟩ | (simp; done) | (simp; omega))) (by decide) rfl ?_; intro _) | (refine vo_buildSlice0 rfl ?_; intro _) | fail)
          refine ⟨.inr (sei _ _ _), ?_⟩
          refine va_done (by kernel_rfl) ?_
          refine ⟨rfl, ⟨(gu, gv, (a1, c1, ms), (va1, vc1, pa1, pc1)), hms⟩, by (repeat' (first | exact Sub.nil _ | refine Sub.cons rfl rfl ?_ | refine Sub.cons rfl ?_ ?_)), ?_⟩
          dsimp only [Prf.at]
          exact sei _ _ _
        · refine vo_alloc rfl ?_
          intro gv
          refine ⟨.inr (sei _ _ _), ?_⟩
          refine va_one 4 (by kernel_rfl) rfl rfl ?_
          refine vo_alloc rfl ?_
          intro gu
          refine ⟨.inr (sei _ _ _), ?_⟩
          refine va_one 6 (by kernel_rfl) rfl rfl ?_
          (first | (refine vo_box rfl rfl rfl ?_; intro _) | (refine vo_alloc rfl ?_; intro _) | (refine vo_isStore ?_; first | (refine vo_isPt0 rfl ?_; refine vo_stWA rfl rfl ?_) | (refine vo_isPt rfl ?_; refine vo_stBA rfl rfl ?_) | (refine vo_stO rfl rfl (by rfl) (by first | rfl | assumption) (by first | assumption | (simp; done) | (simp; omega) | omega) rfl ?_; skip)) | (refine vo_isCall ?_; first | (refine vo_isApp ?_; first | (refine vo_append0A rfl rfl rfl ?_; intro _ _ _ _) | (refine vo_appendA rfl rfl rfl ?_; intro _ _ _ _)) | (refine vo_isCopy ?_; refine vo_copyB rfl rfl rfl (by assumption) (by assumption) (by assumption) (by assumption) ?_) | refine vo_yield rfl rfl rfl rfl rfl ?_ | refine vo_callV rfl rfl rfl (vc_in rfl rfl ?_)) | refine vo_convRow rfl rfl ?_ | (refine vo_isBs ?_; refine vo_buildSlice rfl rfl rfl (by decide) (by repeat' (first | exact trivial | rfl | assumption | refine ⟨?_, ?_⟩ | (simp; done) | (simp; omega))) (by decide) rfl ?_; intro _) | (refine vo_buildSlice0 rfl ?_; intro _) | fail)
          refine ⟨.inr (sei _ _ _), ?_⟩
          refine va_one 7 (by kernel_rfl) rfl rfl ?_
          (first | (refine vo_box rfl rfl rfl ?_; intro _) | (refine vo_alloc rfl ?_; intro _) | (refine vo_isStore ?_; first | (refine vo_isPt0 rfl ?_; refine vo_stWA rfl rfl ?_) | (refine vo_isPt rfl ?_; refine vo_stBA rfl rfl ?_) | (refine vo_stO rfl rfl (by rfl) (by first | rfl | assumption) (by first | assumption | (simp; done) | (simp; omega) | omega) rfl ?_; skip)) | (refine vo_isCall ?_; first | (refine vo_isApp ?_; first | (refine vo_append0A rfl rfl rfl ?_; intro _ _ _ _) | (refine vo_appendA rfl rfl rfl ?_; intro _ _ _ _)) | (refine vo_isCopy ?_; refine vo_copyB rfl rfl rfl (by assumption) (by assumption) (by assumption) (by assumption) ?_) | refine vo_yield rfl rfl rfl rfl rfl ?_ | refine vo_callV rfl rfl rfl (vc_in rfl rfl ?_)) | refine vo_convRow rfl rfl ?_ | (refine vo_isBs ?_; refine vo_buildSlice rfl rfl rfl (by decide) (by repeat' (first | exact trivial | rfl | assumption | refine ⟨?_, ?_⟩ | (simp; done) | (simp; omega))) (by decide) rfl ?_; intro _) | (refine vo_buildSlice0 rfl ?_; intro _) | fail)
          refine ⟨.inr (sei _ _ _), ?_⟩
          refine va_done (by kernel_rfl) ?_
          refine ⟨rfl, ⟨(gu, gv, (a1, c1, ms), (va1, vc1, pa1, pc1)), hms⟩, by (repeat' (first | exact Sub.nil _ | refine Sub.cons rfl rfl ?_ | refine Sub.cons rfl ?_ ?_)), ?_⟩
          dsimp only [Prf.at]
          exact sei _ _ _
      · refine vo_alloc rfl ?_
        intro gu
        refine ⟨.inr (sei _ _ _), ?_⟩
        refine va_two 3 5 (by kernel_rfl) rfl rfl rfl rfl ?_ ?_
        · first | refine vo_call rfl rfl ?_ | refine vo_callV rfl rfl rfl ?_
          refine vc_mono (twin7_vc w0 _ p hp) ?_
          rintro v L' ⟨va1, vc1, pa1, pc1, rfl, rfl⟩
          have lz : (Prf.mk p.key p.kind p.other va1 vc1 p.vl pa1 pc1 p.pl).cells.length = 67 := Prf.len (at_ok hp (va1, vc1, pa1, pc1))
          refine ⟨.inr (sei _ _ _), ?_⟩
          refine va_one 5 (by kernel_rfl) rfl rfl ?_
          refine vo_alloc rfl ?_
          intro gv
          refine ⟨.inr (sei _ _ _), ?_⟩
          refine va_one 6 (by kernel_rfl) rfl rfl ?_
          (first | (refine vo_box rfl rfl rfl ?_; intro _) | (refine vo_alloc rfl ?_; intro _) | (refine vo_isStore ?_; first | (refine vo_isPt0 rfl ?_; refine vo_stWA rfl rfl ?_) | (refine vo_isPt rfl ?_; refine vo_stBA rfl rfl ?_) | (refine vo_stO rfl rfl (by rfl) (by first | rfl | assumption) (by first | assumption | (simp; done) | (simp; omega) | omega) rfl ?_; skip)) | (refine vo_isCall ?_; first | (refine vo_isApp ?_; first | (refine vo_append0A rfl rfl rfl ?_; intro _ _ _ _) | (refine vo_appendA rfl rfl rfl ?_; intro _ _ _ _)) | (refine vo_isCopy ?_; refine vo_copyB rfl rfl rfl (by assumption) (by assumption) (by assumption) (by assumption) ?_) | refine vo_yield rfl rfl rfl rfl rfl ?_ | refine vo_callV rfl rfl rfl (vc_in rfl rfl ?_)) | refine vo_convRow rfl rfl ?_ | (refine vo_isBs ?_; refine vo_buildSlice rfl rfl rfl (by decide) (by repeat' (first | exact trivial | rfl | assumption | refine ⟨?_, ?_⟩ | (simp; done) | (simp; omega))) (by decide) rfl ?_; intro _) | (refine vo_buildSlice0 rfl ?_; intro _) | fail)
          refine ⟨.inr (sei _ _ _), ?_⟩
          refine va_one 7 (by kernel_rfl) rfl rfl ?_
          (first | (refine vo_box rfl rfl rfl ?_; intro _) | (refine vo_alloc rfl ?_; intro _) | (refine vo_isStore ?_; first | (refine vo_isPt0 rfl ?_; refine vo_stWA rfl rfl ?_) | (refine vo_isPt rfl ?_; refine vo_stBA rfl rfl ?_) | (refine vo_stO rfl rfl (by rfl) (by first | rfl | assumption) (by first | assumption | (simp; done) | (simp; omega) | omega) rfl ?_; skip)) | (refine vo_isCall ?_; first | (refine vo_isApp ?_; first | (refine vo_append0A rfl rfl rfl ?_; intro _ _ _ _) | (refine vo_appendA rfl rfl rfl ?_; intro _ _ _ _)) | (refine vo_isCopy ?_; refine vo_copyB rfl rfl rfl (by assumption) (by assumption) (by assumption) (by assumption) ?_) | refine vo_yield rfl rfl rfl rfl rfl ?_ | refine vo_callV rfl rfl rfl (vc_in rfl rfl ?_)) | refine vo_convRow rfl rfl ?_ | (refine vo_isBs ?_; refine vo_buildSlice rfl rfl rfl (by decide) (by repeat' (first | exact trivial | rfl | assumption | refine ⟨?_, ?_⟩ | (simp; done) | (simp; omega))) (by decide) rfl ?_; intro _) | (refine vo_buildSlice0 rfl ?_; intro _) | fail)
          refine ⟨.inr (sei _ _ _), ?_⟩
          refine va_done (by kernel_rfl) ?_
          refine ⟨rfl, ⟨(gu, gv, (a1, c1, ms), (va1, vc1, pa1, pc1)), hms⟩, by (repeat' (first | exact Sub.nil _ | refine Sub.cons rfl rfl ?_ | refine Sub.cons rfl ?_ ?_)), ?_⟩
          dsimp only [Prf.at]
          exact sei _ _ _
        · refine vo_alloc rfl ?_
          intro gv
          refine ⟨.inr (sei _ _ _), ?_⟩
          refine va_one 3 (by kernel_rfl) rfl rfl ?_
          first | refine vo_call rfl rfl ?_ | refine vo_callV rfl rfl rfl ?_
          refine vc_mono (twin7_vc w0 _ p hp) ?_
          rintro v L' ⟨va1, vc1, pa1, pc1, rfl, rfl⟩
          have lz : (Prf.mk p.key p.kind p.other va1 vc1 p.vl pa1 pc1 p.pl).cells.length = 67 := Prf.len (at_ok hp (va1, vc1, pa1, pc1))
          refine ⟨.inr (sei _ _ _), ?_⟩
          refine va_one 6 (by kernel_rfl) rfl rfl ?_
          (first | (refine vo_box rfl rfl rfl ?_; intro _) | (refine vo_alloc rfl ?_; intro _) | (refine vo_isStore ?_; first | (refine vo_isPt0 rfl ?_; refine vo_stWA rfl rfl ?_) | (refine vo_isPt rfl ?_; refine vo_stBA rfl rfl ?_) | (refine vo_stO rfl rfl (by rfl) (by first | rfl | assumption) (by first | assumption | (simp; done) | (simp; omega) | omega) rfl ?_; skip)) | (refine vo_isCall ?_; first | (refine vo_isApp ?_; first | (refine vo_append0A rfl rfl rfl ?_; intro _ _ _ _) | (refine vo_appendA rfl rfl rfl ?_; intro _ _ _ _)) | (refine vo_isCopy ?_; refine vo_copyB rfl rfl rfl (by assumption) (by assumption) (by assumption) (by assumption) ?_) | refine vo_yield rfl rfl rfl rfl rfl ?_ | refine vo_callV rfl rfl rfl (vc_in rfl rfl ?_)) | refine vo_convRow rfl rfl ?_ | (refine vo_isBs ?_; refine vo_buildSlice rfl rfl rfl (by decide) (by repeat' (first | exact trivial | rfl | assumption | refine ⟨?_, ?_⟩ | (simp; done) | (simp; omega))) (by decide) rfl ?_; intro _) | (refine vo_buildSlice0 rfl ?_; intro _) | fail)
          refine ⟨.inr (sei _ _ _), ?_⟩
          refine va_one 7 (by kernel_rfl) rfl rfl ?_
          (first | (refine vo_box rfl rfl rfl ?_; intro _) | (refine vo_alloc rfl ?_; intro _) | (refine vo_isStore ?_; first | (refine vo_isPt0 rfl ?_; refine vo_stWA rfl rfl ?_) | (refine vo_isPt rfl ?_; refine vo_stBA rfl rfl ?_) | (refine vo_stO rfl rfl (by rfl) (by first | rfl | assumption) (by first | assumption | (simp; done) | (simp; omega) | omega) rfl ?_; skip)) | (refine vo_isCall ?_; first | (refine vo_isApp ?_; first | (refine vo_append0A rfl rfl rfl ?_; intro _ _ _ _) | (refine vo_appendA rfl rfl rfl ?_; intro _ _ _ _)) | (refine vo_isCopy ?_; refine vo_copyB rfl rfl rfl (by assumption) (by assumption) (by assumption) (by assumption) ?_) | refine vo_yield rfl rfl rfl rfl rfl ?_ | refine vo_callV rfl rfl rfl (vc_in rfl rfl ?_)) | refine vo_convRow rfl rfl ?_ | (refine vo_isBs ?_; refine vo_buildSlice rfl rfl rfl (by decide) (by repeat' (first | exact trivial | rfl | assumption | refine ⟨?_, ?_⟩ | (simp; done) | (simp; omega))) (by decide) rfl ?_; intro _) | (refine vo_buildSlice0 rfl ?_; intro _) | fail)
          refine ⟨.inr (sei _ _ _), ?_⟩
          refine va_done (by kernel_rfl) ?_
          refine ⟨rfl, ⟨(gu, gv, (a1, c1, ms), (va1, vc1, pa1, pc1)), hms⟩, by (repeat' (first | exact Sub.nil _ | refine Sub.cons rfl rfl ?_ | refine Sub.cons rfl ?_ ?_)), ?_⟩
          dsimp only [Prf.at]
          exact sei _ _ _
      · refine vo_alloc rfl ?_
        intro gv
        refine ⟨.inr (sei _ _ _), ?_⟩
        refine va_two 3 4 (by kernel_rfl) rfl rfl rfl rfl ?_ ?_
        · first | refine vo_call rfl rfl ?_ | refine vo_callV rfl rfl rfl ?_
          refine vc_mono (twin7_vc w0 _ p hp) ?_
          rintro v L' ⟨va1, vc1, pa1, pc1, rfl, rfl⟩
          have lz : (Prf.mk p.key p.kind p.other va1 vc1 p.vl pa1 pc1 p.pl).cells.length = 67 := Prf.len (at_ok hp (va1, vc1, pa1, pc1))
          refine ⟨.inr (sei _ _ _), ?_⟩
          refine va_one 4 (by kernel_rfl) rfl rfl ?_
          refine vo_alloc rfl ?_
          intro gu
          refine ⟨.inr (sei _ _ _), ?_⟩
          refine va_one 6 (by kernel_rfl) rfl rfl ?_
          (first | (refine vo_box rfl rfl rfl ?_; intro _) | (refine vo_alloc rfl ?_; intro _) | (refine vo_isStore ?_; first | (refine vo_isPt0 rfl ?_; refine vo_stWA rfl rfl ?_) | (refine vo_isPt rfl ?_; refine vo_stBA rfl rfl ?_) | (refine vo_stO rfl rfl (by rfl) (by first | rfl | assumption) (by first | assumption | (simp; done) | (simp; omega) | omega) rfl ?_; skip)) | (refine vo_isCall ?_; first | (refine vo_isApp ?_; first | (refine vo_append0A rfl rfl rfl ?_; intro _ _ _ _) | (refine vo_appendA rfl rfl rfl ?_; intro _ _ _ _)) | (refine vo_isCopy ?_; refine vo_copyB rfl rfl rfl (by assumption) (by assumption) (by assumption) (by assumption) ?_) | refine vo_yield rfl rfl rfl rfl rfl ?_ | refine vo_callV rfl rfl rfl (vc_in rfl rfl ?_)) | refine vo_convRow rfl rfl ?_ | (refine vo_isBs ?_; refine vo_buildSlice rfl rfl rfl (by decide) (by repeat' (first | exact trivial | rfl | assumption | refine ⟨?_, ?_⟩ | (simp; done) | (simp; omega))) (by decide) rfl ?_; intro _) | (refine vo_buildSlice0 rfl ?_; intro _) | fail)
          refine ⟨.inr (sei _ _ _), ?_⟩
          refine va_one 7 (by kernel_rfl) rfl rfl ?_
          (first | (refine vo_box rfl rfl rfl ?_; intro _) | (refine vo_alloc rfl ?_; intro _) | (refine vo_isStore ?_; first | (refine vo_isPt0 rfl ?_; refine vo_stWA rfl rfl ?_) | (refine vo_isPt rfl ?_; refine vo_stBA rfl rfl ?_) | (refine vo_stO rfl rfl (by rfl) (by first | rfl | assumption) (by first | assumption | (simp; done) | (simp; omega) | omega) rfl ?_; skip)) | (refine vo_isCall ?_; first | (refine vo_isApp ?_; first | (refine vo_append0A rfl rfl rfl ?_; intro _ _ _ _) | (refine vo_appendA rfl rfl rfl ?_; intro _ _ _ _)) | (refine vo_isCopy ?_; refine vo_copyB rfl rfl rfl (by assumption) (by assumption) (by assumption) (by assumption) ?_) | refine vo_yield rfl rfl rfl rfl rfl ?_ | refine vo_callV rfl rfl rfl (vc_in rfl rfl ?_)) | refine vo_convRow rfl rfl ?_ | (refine vo_isBs ?_; refine vo_buildSlice rfl rfl rfl (by decide) (by repeat' (first | exact trivial | rfl | assumption | refine ⟨?_, ?_⟩ | (simp; done) | (simp; omega))) (by decide) rfl ?_; intro _) | (refine vo_buildSlice0 rfl ?_; intro _) | fail)
          refine ⟨.inr (sei _ _ _), ?_⟩
          refine va_done (by kernel_rfl) ?_
          refine ⟨rfl, ⟨(gu, gv, (a1, c1, ms), (va1, vc1, pa1, pc1)), hms⟩, by (repeat' (first | exact Sub.nil _ | refine Sub.cons rfl rfl ?_ | refine Sub.cons rfl ?_ ?_)), ?_⟩
          dsimp only [Prf.at]
          exact sei _ _ _
        · refine vo_alloc rfl ?_
          intro gu
          refine ⟨.inr (sei _ _ _), ?_⟩
          refine va_one 3 (by kernel_rfl) rfl rfl ?_
          first | refine vo_call rfl rfl ?_ | refine vo_callV rfl rfl rfl ?_
          refine vc_mono (twin7_vc w0 _ p hp) ?_
          rintro v L' ⟨va1, vc1, pa1, pc1, rfl, rfl⟩
          have lz : (Prf.mk p.key p.kind p.other va1 vc1 p.vl pa1 pc1 p.pl).cells.length = 67 := Prf.len (at_ok hp (va1, vc1, pa1, pc1))
          refine ⟨.inr (sei _ _ _), ?_⟩
          refine va_one 6 (by kernel_rfl) rfl rfl ?_
          (first | (refine vo_box rfl rfl rfl ?_; intro _) | (refine vo_alloc rfl ?_; intro _) | (refine vo_isStore ?_; first | (refine vo_isPt0 rfl ?_; refine vo_stWA rfl rfl ?_) | (refine vo_isPt rfl ?_; refine vo_stBA rfl rfl ?_) | (refine vo_stO rfl rfl (by rfl) (by first | rfl | assumption) (by first | assumption | (simp; done) | (simp; omega) | omega) rfl ?_; skip)) | (refine vo_isCall ?_; first | (refine vo_isApp ?_; first | (refine vo_append0A rfl rfl rfl ?_; intro _ _ _ _) | (refine vo_appendA rfl rfl rfl ?_; intro _ _ _ _)) | (refine vo_isCopy ?_; refine vo_copyB rfl rfl rfl (by assumption) (by assumption) (by assumption) (by assumption) ?_) | refine vo_yield rfl rfl rfl rfl rfl ?_ | refine vo_callV rfl rfl rfl (vc_in rfl rfl ?_)) | refine vo_convRow rfl rfl ?_ | (refine vo_isBs ?_; refine vo_buildSlice rfl rfl rfl (by decide) (by repeat' (first | exact trivial | rfl | assumption | refine ⟨?_, ?_⟩ | (simp; done) | (simp; omega))) (by decide) rfl ?_; intro _) | (refine vo_buildSlice0 rfl ?_; intro _) | fail)
          refine ⟨.inr (sei _ _ _), ?_⟩
          refine va_one 7 (by kernel_rfl) rfl rfl ?_
          (first | (refine vo_box rfl rfl rfl ?_; intro _) | (refine vo_alloc rfl ?_; intro _) | (refine vo_isStore ?_; first | (refine vo_isPt0 rfl ?_; refine vo_stWA rfl rfl ?_) | (refine vo_isPt rfl ?_; refine vo_stBA rfl rfl ?_) | (refine vo_stO rfl rfl (by rfl) (by first | rfl | assumption) (by first | assumption | (simp; done) | (simp; omega) | omega) rfl ?_; skip)) | (refine vo_isCall ?_; first | (refine vo_isApp ?_; first | (refine vo_append0A rfl rfl rfl ?_; intro _ _ _ _) | (refine vo_appendA rfl rfl rfl ?_; intro _ _ _ _)) | (refine vo_isCopy ?_; refine vo_copyB rfl rfl rfl (by assumption) (by assumption) (by assumption) (by assumption) ?_) | refine vo_yield rfl rfl rfl rfl rfl ?_ | refine vo_callV rfl rfl rfl (vc_in rfl rfl ?_)) | refine vo_convRow rfl rfl ?_ | (refine vo_isBs ?_; refine vo_buildSlice rfl rfl rfl (by decide) (by repeat' (first | exact trivial | rfl | assumption | refine ⟨?_, ?_⟩ | (simp; done) | (simp; omega))) (by decide) rfl ?_; intro _) | (refine vo_buildSlice0 rfl ?_; intro _) | fail)
          refine ⟨.inr (sei _ _ _), ?_⟩
          refine va_done (by kernel_rfl) ?_
          refine ⟨rfl, ⟨(gu, gv, (a1, c1, ms), (va1, vc1, pa1, pc1)), hms⟩, by (repeat' (first | exact Sub.nil _ | refine Sub.cons rfl rfl ?_ | refine Sub.cons rfl ?_ ?_)), ?_⟩
          dsimp only [Prf.at]
          exact sei _ _ _
    · refine vo_alloc rfl ?_
      intro gu
      refine ⟨.inr (sei _ _ _), ?_⟩
      refine va_two 1 5 (by kernel_rfl) rfl rfl rfl rfl ?_ ?_
      · first | refine vo_call rfl rfl ?_ | refine vo_callV rfl rfl rfl ?_
        refine vc_mono (twin6_vc w0 _ a c ns r rfl hok) ?_
        rintro v L' ⟨a1, c1, ms, rfl, hms, rfl⟩
        refine ⟨.inr (sei _ _ _), ?_⟩
        refine va_two 3 5 (by kernel_rfl) rfl rfl rfl rfl ?_ ?_
        · first | refine vo_call rfl rfl ?_ | refine vo_callV rfl rfl rfl ?_
          refine vc_mono (twin7_vc w0 _ p hp) ?_
          rintro v L' ⟨va1, vc1, pa1, pc1, rfl, rfl⟩
          have lz : (Prf.mk p.key p.kind p.other va1 vc1 p.vl pa1 pc1 p.pl).cells.length = 67 := Prf.len (at_ok hp (va1, vc1, pa1, pc1))
          refine ⟨.inr (sei _ _ _), ?_⟩
          refine va_one 5 (by kernel_rfl) rfl rfl ?_
          refine vo_alloc rfl ?_
          intro gv
          refine ⟨.inr (sei _ _ _), ?_⟩
          refine va_one 6 (by kernel_rfl) rfl rfl ?_
          (first | (refine vo_box rfl rfl rfl ?_; intro _) | (refine vo_alloc rfl ?_; intro _) | (refine vo_isStore ?_; first | (refine vo_isPt0 rfl ?_; refine vo_stWA rfl rfl ?_) | (refine vo_isPt rfl ?_; refine vo_stBA rfl rfl ?_) | (refine vo_stO rfl rfl (by rfl) (by first | rfl | assumption) (by first | assumption | (simp; done) | (simp; omega) | omega) rfl ?_; skip)) | (refine vo_isCall ?_; first | (refine vo_isApp ?_; first | (refine vo_append0A rfl rfl rfl ?_; intro _ _ _ _) | (refine vo_appendA rfl rfl rfl ?_; intro _ _ _ _)) | (refine vo_isCopy ?_; refine vo_copyB rfl rfl rfl (by assumption) (by assumption) (by assumption) (by assumption) ?_) | refine vo_yield rfl rfl rfl rfl rfl ?_ | refine vo_callV rfl rfl rfl (vc_in rfl rfl ?_)) | refine vo_convRow rfl rfl ?_ | (refine vo_isBs ?_; refine vo_buildSlice rfl rfl rfl (by decide) (by repeat' (first | exact trivial | rfl | assumption | refine ⟨?_, ?_⟩ | (simp; done) | (simp; omega))) (by decide) rfl ?_; intro _) | (refine vo_buildSlice0 rfl ?_; intro _) | fail)
          refine ⟨.inr (sei _ _ _), ?_⟩
          refine va_one 7 (by kernel_rfl) rfl rfl ?_
          (first | (refine vo_box rfl rfl rfl ?_; intro _) | (refine vo_alloc rfl ?_; intro _) | (refine vo_isStore ?_; first | (refine vo_isPt0 rfl ?_; refine vo_stWA rfl rfl ?_) | (refine vo_isPt rfl ?_; refine vo_stBA rfl rfl ?_) | (refine vo_stO rfl rfl (by rfl) (by first | rfl | assumption) (by first | assumption | (simp; done) | (simp; omega) | omega) rfl ?_; skip)) | (refine vo_isCall ?_; first | (refine vo_isApp ?_; first | (refine vo_append0A rfl rfl rfl ?_; intro _ _ _ _) | (refine vo_appendA rfl rfl rfl ?_; intro _ _ _ _)) | (refine vo_isCopy ?_; refine vo_copyB rfl rfl rfl (by assumption) (by assumption) (by assumption) (by assumption) ?_) | refine vo_yield rfl rfl rfl rfl rfl ?_ | refine vo_callV rfl rfl rfl (vc_in rfl rfl ?_)) | refine vo_convRow rfl rfl ?_ | (refine vo_isBs ?_; refine vo_buildSlice rfl rfl rfl (by decide) (by repeat' (first | exact trivial | rfl | assumption | refine ⟨?_, ?_⟩ | (simp; done) | (simp; omega))) (by decide) rfl ?_; intro _) | (refine vo_buildSlice0 rfl ?_; intro _) | fail)
          refine ⟨.inr (sei _ _ _), ?_⟩
          refine va_done (by kernel_rfl) ?_
          refine ⟨rfl, ⟨(gu, gv, (a1, c1, ms), (va1, vc1, pa1, pc1)), hms⟩, by (repeat' (first | exact Sub.nil _ | refine Sub.cons rfl rfl ?_ | refine Sub.cons rfl ?_ ?_)), ?_⟩
          dsimp only [Prf.at]
          exact sei _ _ _
        · refine vo_alloc rfl ?_
          intro gv
          refine ⟨.inr (sei _ _ _), ?_⟩
          refine va_one 3 (by kernel_rfl) rfl rfl ?_
          first | refine vo_call rfl rfl ?_ | refine vo_callV rfl rfl rfl ?_
          refine vc_mono (twin7_vc w0 _ p hp) ?_
          rintro v L' ⟨va1, vc1, pa1, pc1, rfl, rfl⟩
          have lz : (Prf.mk p.key p.kind p.other va1 vc1 p.vl pa1 pc1 p.pl).cells.length = 67 := Prf.len (at_ok hp (va1, vc1, pa1, pc1))
          refine ⟨.inr (sei _ _ _), ?_⟩
          refine va_one 6 (by kernel_rfl) rfl rfl ?_
          (first | (refine vo_box rfl rfl rfl ?_; intro _) | (refine vo_alloc rfl ?_; intro _) | (refine vo_isStore ?_; first | (refine vo_isPt0 rfl ?_; refine vo_stWA rfl rfl ?_) | (refine vo_isPt rfl ?_; refine vo_stBA rfl rfl ?_) | (refine vo_stO rfl rfl (by rfl) (by first | rfl | assumption) (by first | assumption | (simp; done) | (simp; omega) | omega) rfl ?_; skip)) | (refine vo_isCall ?_; first | (refine vo_isApp ?_; first | (refine vo_append0A rfl rfl rfl ?_; intro _ _ _ _) | (refine vo_appendA rfl rfl rfl ?_; intro _ _ _ _)) | (refine vo_isCopy ?_; refine vo_copyB rfl rfl rfl (by assumption) (by assumption) (by assumption) (by assumption) ?_) | refine vo_yield rfl rfl rfl rfl rfl ?_ | refine vo_callV rfl rfl rfl (vc_in rfl rfl ?_)) | refine vo_convRow rfl rfl ?_ | (refine vo_isBs ?_; refine vo_buildSlice rfl rfl rfl (by decide) (by repeat' (first | exact trivial | rfl | assumption | refine ⟨?_, ?_⟩ | (simp; done) | (simp; omega))) (by decide) rfl ?_; intro _) | (refine vo_buildSlice0 rfl ?_; intro _) | fail)
          refine ⟨.inr (sei _ _ _), ?_⟩
          refine va_one 7 (by kernel_rfl) rfl rfl ?_
          (first | (refine vo_box rfl rfl rfl ?_; intro _) | (refine vo_alloc rfl ?_; intro _) | (refine vo_isStore ?_; first | (refine vo_isPt0 rfl ?_; refine vo_stWA rfl rfl ?_) | (refine vo_isPt rfl ?_; refine vo_stBA rfl rfl ?_) | (refine vo_stO rfl rfl (by rfl) (by first | rfl | assumption) (by first | assumption | (simp; done) | (simp; omega) | omega) rfl ?_; skip)) | (refine vo_isCall ?_; first | (refine vo_isApp ?_; first | (refine vo_append0A rfl rfl rfl ?_; intro _ _ _ _) | (refine vo_appendA rfl rfl rfl ?_; intro _ _ _ _)) | (refine vo_isCopy ?_; refine vo_copyB rfl rfl rfl (by assumption) (by assumption) (by assumption) (by assumption) ?_) | refine vo_yield rfl rfl rfl rfl rfl ?_ | refine vo_callV rfl rfl rfl (vc_in rfl rfl ?_)) | refine vo_convRow rfl rfl ?_ | (refine vo_isBs ?_; refine vo_buildSlice rfl rfl rfl (by decide) (by repeat' (first | exact trivial | rfl | assumption | refine ⟨?_, ?_⟩ | (simp; done) | (simp; omega))) (by decide) rfl ?_; intro _) | (refine vo_buildSlice0 rfl ?_; intro _) | fail)
          refine ⟨.inr (sei _ _ _), ?_⟩
          refine va_done (by kernel_rfl) ?_
          refine ⟨rfl, ⟨(gu, gv, (a1, c1, ms), (va1, vc1, pa1, pc1)), hms⟩, by (repeat' (first | exact Sub.nil _ | refine Sub.cons rfl rfl ?_ | refine Sub.cons rfl ?_ ?_)), ?_⟩
          dsimp only [Prf.at]
          exact sei _ _ _
      · refine vo_alloc rfl ?_
        intro gv
        refine ⟨.inr (sei _ _ _), ?_⟩
        refine va_one 1 (by kernel_rfl) rfl rfl ?_
        first | refine vo_call rfl rfl ?_ | refine vo_callV rfl rfl rfl ?_
        refine vc_mono (twin6_vc w0 _ a c ns r rfl hok) ?_
        rintro v L' ⟨a1, c1, ms, rfl, hms, rfl⟩
        refine ⟨.inr (sei _ _ _), ?_⟩
        refine va_one 3 (by kernel_rfl) rfl rfl ?_
        first | refine vo_call rfl rfl ?_ | refine vo_callV rfl rfl rfl ?_
        refine vc_mono (twin7_vc w0 _ p hp) ?_
        rintro v L' ⟨va1, vc1, pa1, pc1, rfl, rfl⟩
        have lz : (Prf.mk p.key p.kind p.other va1 vc1 p.vl pa1 pc1 p.pl).cells.length = 67 := Prf.len (at_ok hp (va1, vc1, pa1, pc1))
        refine ⟨.inr (sei _ _ _), ?_⟩
        refine va_one 6 (by kernel_rfl) rfl rfl ?_
        (first | (refine vo_box rfl rfl rfl ?_; intro _) | (refine vo_alloc rfl ?_; intro _) | (refine vo_isStore ?_; first | (refine vo_isPt0 rfl ?_; refine vo_stWA rfl rfl ?_) | (refine vo_isPt rfl ?_; refine vo_stBA rfl rfl ?_) | (refine vo_stO rfl rfl (by rfl) (by first | rfl | assumption) (by first | assumption | (simp; done) | (simp; omega) | omega) rfl ?_; skip)) | (refine vo_isCall ?_; first | (refine vo_isApp ?_; first | (refine vo_append0A rfl rfl rfl ?_; intro _ _ _ _) | (refine vo_appendA rfl rfl rfl ?_; intro _ _ _ _)) | (refine vo_isCopy ?_; refine vo_copyB rfl rfl rfl (by assumption) (by assumption) (by assumption) (by assumption) ?_) | refine vo_yield rfl rfl rfl rfl rfl ?_ | refine vo_callV rfl rfl rfl (vc_in rfl rfl ?_)) | refine vo_convRow rfl rfl ?_ | (refine vo_isBs ?_; refine vo_buildSlice rfl rfl rfl (by decide) (by repeat' (first | exact trivial | rfl | assumption | refine ⟨?_, ?_⟩ | (simp; done) | (simp; omega))) (by decide) rfl ?_; intro _) | (refine vo_buildSlice0 rfl ?_; intro _) | fail)
        refine ⟨.inr (sei _ _ _), ?_⟩
        refine va_one 7 (by kernel_rfl) rfl rfl ?_
        (first | (refine vo_box rfl rfl rfl ?_; intro _) | (refine vo_alloc rfl ?_; intro _) | (refine vo_isStore ?_; first | (refine vo_isPt0 rfl ?_; refine vo_stWA rfl rfl ?_) | (refine vo_isPt rfl ?_; refine vo_stBA rfl rfl ?_) | (refine vo_stO rfl rfl (by rfl) (by first | rfl | assumption) (by first | assumption | (simp; done) | (simp; omega) | omega) rfl ?_; skip)) | (refine vo_isCall ?_; first | (refine vo_isApp ?_; first | (refine vo_append0A rfl rfl rfl ?_; intro _ _ _ _) | (refine vo_appendA rfl rfl rfl ?_; intro _ _ _ _)) | (refine vo_isCopy ?_; refine vo_copyB rfl rfl rfl (by assumption) (by assumption) (by assumption) (by assumption) ?_) | refine vo_yield rfl rfl rfl rfl rfl ?_ | refine vo_callV rfl rfl rfl (vc_in rfl rfl ?_)) | refine vo_convRow rfl rfl ?_ | (refine vo_isBs ?_; refine vo_buildSlice rfl rfl rfl (by decide) (by repeat' (first | exact trivial | rfl | assumption | refine ⟨?_, ?_⟩ | (simp; done) | (simp; omega))) (by decide) rfl ?_; intro _) | (refine vo_buildSlice0 rfl ?_; intro _) | fail)
        refine ⟨.inr (sei _ _ _), ?_⟩
        refine va_done (by kernel_rfl) ?_
        refine ⟨rfl, ⟨(gu, gv, (a1, c1, ms), (va1, vc1, pa1, pc1)), hms⟩, by (repeat' (first | exact Sub.nil _ | refine Sub.cons rfl rfl ?_ | refine Sub.cons rfl ?_ ?_)), ?_⟩
        dsimp only [Prf.at]
        exact sei _ _ _
    · refine vo_alloc rfl ?_
      intro gv
      refine ⟨.inr (sei _ _ _), ?_⟩
      refine va_two 1 4 (by kernel_rfl) rfl rfl rfl rfl ?_ ?_
      · first | refine vo_call rfl rfl ?_ | refine vo_callV rfl rfl rfl ?_
        refine vc_mono (twin6_vc w0 _ a c ns r rfl hok) ?_
        rintro v L' ⟨a1, c1, ms, rfl, hms, rfl⟩
        refine ⟨.inr (sei _ _ _), ?_⟩
        refine va_two 3 4 (by kernel_rfl) rfl rfl rfl rfl ?_ ?_
        · first | refine vo_call rfl rfl ?_ | refine vo_callV rfl rfl rfl ?_
          refine vc_mono (twin7_vc w0 _ p hp) ?_
          rintro v L' ⟨va1, vc1, pa1, pc1, rfl, rfl⟩
          have lz : (Prf.mk p.key p.kind p.other va1 vc1 p.vl pa1 pc1 p.pl).cells.length = 67 := Prf.len (at_ok hp (va1, vc1, pa1, pc1))
          refine ⟨.inr (sei _ _ _), ?_⟩
          refine va_one 4 (by kernel_rfl) rfl rfl ?_
          refine vo_alloc rfl ?_
          intro gu
          refine ⟨.inr (sei _ _ _), ?_⟩
          refine va_one 6 (by kernel_rfl) rfl rfl ?_
          (first | (refine vo_box rfl rfl rfl ?_; intro _) | (refine vo_alloc rfl ?_; intro _) | (refine vo_isStore ?_; first | (refine vo_isPt0 rfl ?_; refine vo_stWA rfl rfl ?_) | (refine vo_isPt rfl ?_; refine vo_stBA rfl rfl ?_) | (refine vo_stO rfl rfl (by rfl) (by first | rfl | assumption) (by first | assumption | (simp; done) | (simp; omega) | omega) rfl ?_; skip)) | (refine vo_isCall ?_; first | (refine vo_isApp ?_; first | (refine vo_append0A rfl rfl rfl ?_; intro _ _ _ _) | (refine vo_appendA rfl rfl rfl ?_; intro _ _ _ _)) | (refine vo_isCopy ?_; refine vo_copyB rfl rfl rfl (by assumption) (by assumption) (by assumption) (by assumption) ?_) | refine vo_yield rfl rfl rfl rfl rfl ?_ | refine vo_callV rfl rfl rfl (vc_in rfl rfl ?_)) | refine vo_convRow rfl rfl ?_ | (refine vo_isBs ?_; refine vo_buildSlice rfl rfl rfl (by decide) (by repeat' (first | exact trivial | rfl | assumption | refine ⟨?_, ?_⟩ | (simp; done) | (simp; omega))) (by decide) rfl ?_; intro _) | (refine vo_buildSlice0 rfl ?_; intro _) | fail)
          refine ⟨.inr (sei _ _ _), ?_⟩
          refine va_one 7 (by kernel_rfl) rfl rfl ?_
          (first | (refine vo_box rfl rfl rfl ?_; intro _) | (refine vo_alloc rfl ?_; intro _) | (refine vo_isStore ?_; first | (refine vo_isPt0 rfl ?_; refine vo_stWA rfl rfl ?_) | (refine vo_isPt rfl ?_; refine vo_stBA rfl rfl ?_) | (refine vo_stO rfl rfl (by rfl) (by first | rfl | assumption) (by first | assumption | (simp; done) | (simp; omega) | omega) rfl ?_; skip)) | (refine vo_isCall ?_; first | (refine vo_isApp ?_; first | (refine vo_append0A rfl rfl rfl ?_; intro _ _ _ _) | (refine vo_appendA rfl rfl rfl ?_; intro _ _ _ _)) | (refine vo_isCopy ?_; refine vo_copyB rfl rfl rfl (by assumption) (by assumption) (by assumption) (by assumption) ?_) | refine vo_yield rfl rfl rfl rfl rfl ?_ | refine vo_callV rfl rfl rfl (vc_in rfl rfl ?_)) | refine vo_convRow rfl rfl ?_ | (refine vo_isBs ?_; refine vo_buildSlice rfl rfl rfl (by decide) (by repeat' (first | exact trivial | rfl | assumption | refine ⟨?_, ?_⟩ | (simp; done) | (simp; omega))) (by decide) rfl ?_; intro _) | (refine vo_buildSlice0 rfl ?_; intro _) | fail)
          refine ⟨.inr (sei _ _ _), ?_⟩
          refine va_done (by kernel_rfl) ?_
          refine ⟨rfl, ⟨(gu, gv, (a1, c1, ms), (va1, vc1, pa1, pc1)), hms⟩, by (repeat' (first | exact Sub.nil _ | refine Sub.cons rfl rfl ?_ | refine Sub.cons rfl ?_ ?_)), ?_⟩
          dsimp only [Prf.at]
          exact sei _ _ _
        · refine vo_alloc rfl ?_
          intro gu
          refine ⟨.inr (sei _ _ _), ?_⟩
          refine va_one 3 (by kernel_rfl) rfl rfl ?_
          first | refine vo_call rfl rfl ?_ | refine vo_callV rfl rfl rfl ?_
          refine vc_mono (twin7_vc w0 _ p hp) ?_
          rintro v L' ⟨va1, vc1, pa1, pc1, rfl, rfl⟩
          have lz : (Prf.mk p.key p.kind p.other va1 vc1 p.vl pa1 pc1 p.pl).cells.length = 67 := Prf.len (at_ok hp (va1, vc1, pa1, pc1))
          refine ⟨.inr (sei _ _ _), ?_⟩
          refine va_one 6 (by kernel_rfl) rfl rfl ?_
          (first | (refine vo_box rfl rfl rfl ?_; intro _) | (refine vo_alloc rfl ?_; intro _) | (refine vo_isStore ?_; first | (refine vo_isPt0 rfl ?_; refine vo_stWA rfl rfl ?_) | (refine vo_isPt rfl ?_; refine vo_stBA rfl rfl ?_) | (refine vo_stO rfl rfl (by rfl) (by first | rfl | assumption) (by first | assumption | (simp; done) | (simp; omega) | omega) rfl ?_; skip)) | (refine vo_isCall ?_; first | (refine vo_isApp ?_; first | (refine vo_append0A rfl rfl rfl ?_; intro _ _ _ _) | (refine vo_appendA rfl rfl rfl ?_; intro _ _ _ _)) | (refine vo_isCopy ?_; refine vo_copyB rfl rfl rfl (by assumption) (by assumption) (by assumption) (by assumption) ?_) | refine vo_yield rfl rfl rfl rfl rfl ?_ | refine vo_callV rfl rfl rfl (vc_in rfl rfl ?_)) | refine vo_convRow rfl rfl ?_ | (refine vo_isBs ?_; refine vo_buildSlice rfl rfl rfl (by decide) (by repeat' (first | exact trivial | rfl | assumption | refine ⟨?_, ?_⟩ | (simp; done) | (simp; omega))) (by decide) rfl ?_; intro _) | (refine vo_buildSlice0 rfl ?_; intro _) | fail)
          refine ⟨.inr (sei _ _ _), ?_⟩
          refine va_one 7 (by kernel_rfl) rfl rfl ?_
          (first | (refine vo_box rfl rfl rfl ?_; intro _) | (refine vo_alloc rfl ?_; intro _) | (refine vo_isStore ?_; first | (refine vo_isPt0 rfl ?_; refine vo_stWA rfl rfl ?_) | (refine vo_isPt rfl ?_; refine vo_stBA rfl rfl ?_) | (refine vo_stO rfl rfl (by rfl) (by first | rfl | assumption) (by first | assumption | (simp; done) | (simp; omega) | omega) rfl ?_; skip)) | (refine vo_isCall ?_; first | (refine vo_isApp ?_; first | (refine vo_append0A rfl rfl rfl ?_; intro _ _ _ _) | (refine vo_appendA rfl rfl rfl ?_; intro _ _ _ _)) | (refine vo_isCopy ?_; refine vo_copyB rfl rfl rfl (by assumption) (by assumption) (by assumption) (by assumption) ?_) | refine vo_yield rfl rfl rfl rfl rfl ?_ | refine vo_callV rfl rfl rfl (vc_in rfl rfl ?_)) | refine vo_convRow rfl rfl ?_ | (refine vo_isBs ?_; refine vo_buildSlice rfl rfl rfl (by decide) (by repeat' (first | exact trivial | rfl | assumption | refine ⟨?_, ?_⟩ | (simp; done) | (simp; omega))) (by decide) rfl ?_; intro _) | (refine vo_buildSlice0 rfl ?_; intro _) | fail)
          refine ⟨.inr (sei _ _ _), ?_⟩
          refine va_done (by kernel_rfl) ?_
          refine ⟨rfl, ⟨(gu, gv, (a1, c1, ms), (va1, vc1, pa1, pc1)), hms⟩, by (repeat' (first | exact Sub.nil _ | refine Sub.cons rfl rfl ?_ | refine Sub.cons rfl ?_ ?_)), ?_⟩
          dsimp only [Prf.at]
          exact sei _ _ _
      · refine vo_alloc rfl ?_
        intro gu
        refine ⟨.inr (sei _ _ _), ?_⟩
        refine va_one 1 (by kernel_rfl) rfl rfl ?_
        first | refine vo_call rfl rfl ?_ | refine vo_callV rfl rfl rfl ?_
        refine vc_mono (twin6_vc w0 _ a c ns r rfl hok) ?_
        rintro v L' ⟨a1, c1, ms, rfl, hms, rfl⟩
        refine ⟨.inr (sei _ _ _), ?_⟩
        refine va_one 3 (by kernel_rfl) rfl rfl ?_
        first | refine vo_call rfl rfl ?_ | refine vo_callV rfl rfl rfl ?_
        refine vc_mono (twin7_vc w0 _ p hp) ?_
        rintro v L' ⟨va1, vc1, pa1, pc1, rfl, rfl⟩
        have lz : (Prf.mk p.key p.kind p.other va1 vc1 p.vl pa1 pc1 p.pl).cells.length = 67 := Prf.len (at_ok hp (va1, vc1, pa1, pc1))
        refine ⟨.inr (sei _ _ _), ?_⟩
        refine va_one 6 (by kernel_rfl) rfl rfl ?_
        (first | (refine vo_box rfl rfl rfl ?_; intro _) | (refine vo_alloc rfl ?_; intro _) | (refine vo_isStore ?_; first | (refine vo_isPt0 rfl ?_; refine vo_stWA rfl rfl ?_) | (refine vo_isPt rfl ?_; refine vo_stBA rfl rfl ?_) | (refine vo_stO rfl rfl (by rfl) (by first | rfl | assumption) (by first | assumption | (simp; done) | (simp; omega) | omega) rfl ?_; skip)) | (refine vo_isCall ?_; first | (refine vo_isApp ?_; first | (refine vo_append0A rfl rfl rfl ?_; intro _ _ _ _) | (refine vo_appendA rfl rfl rfl ?_; intro _ _ _ _)) | (refine vo_isCopy ?_; refine vo_copyB rfl rfl rfl (by assumption) (by assumption) (by assumption) (by assumption) ?_) | refine vo_yield rfl rfl rfl rfl rfl ?_ | refine vo_callV rfl rfl rfl (vc_in rfl rfl ?_)) | refine vo_convRow rfl rfl ?_ | (refine vo_isBs ?_; refine vo_buildSlice rfl rfl rfl (by decide) (by repeat' (first | exact trivial | rfl | assumption | refine ⟨?_, ?_⟩ | (simp; done) | (simp; omega))) (by decide) rfl ?_; intro _) | (refine vo_buildSlice0 rfl ?_; intro _) | fail)
        refine ⟨.inr (sei _ _ _), ?_⟩
        refine va_one 7 (by kernel_rfl) rfl rfl ?_
        (first | (refine vo_box rfl rfl rfl ?_; intro _) | (refine vo_alloc rfl ?_; intro _) | (refine vo_isStore ?_; first | (refine vo_isPt0 rfl ?_; refine vo_stWA rfl rfl ?_) | (refine vo_isPt rfl ?_; refine vo_stBA rfl rfl ?_) | (refine vo_stO rfl rfl (by rfl) (by first | rfl | assumption) (by first | assumption | (simp; done) | (simp; omega) | omega) rfl ?_; skip)) | (refine vo_isCall ?_; first | (refine vo_isApp ?_; first | (refine vo_append0A rfl rfl rfl ?_; intro _ _ _ _) | (refine vo_appendA rfl rfl rfl ?_; intro _ _ _ _)) | (refine vo_isCopy ?_; refine vo_copyB rfl rfl rfl (by assumption) (by assumption) (by assumption) (by assumption) ?_) | refine vo_yield rfl rfl rfl rfl rfl ?_ | refine vo_callV rfl rfl rfl (vc_in rfl rfl ?_)) | refine vo_convRow rfl rfl ?_ | (refine vo_isBs ?_; refine vo_buildSlice rfl rfl rfl (by decide) (by repeat' (first | exact trivial | rfl | assumption | refine ⟨?_, ?_⟩ | (simp; done) | (simp; omega))) (by decide) rfl ?_; intro _) | (refine vo_buildSlice0 rfl ?_; intro _) | fail)
        refine ⟨.inr (sei _ _ _), ?_⟩
        refine va_done (by kernel_rfl) ?_
        refine ⟨rfl, ⟨(gu, gv, (a1, c1, ms), (va1, vc1, pa1, pc1)), hms⟩, by (repeat' (first | exact Sub.nil _ | refine Sub.cons rfl rfl ?_ | refine Sub.cons rfl ?_ ?_)), ?_⟩
        dsimp only [Prf.at]
        exact sei _ _ _
  rintro ⟨⟨gu, gv, ⟨a1, c1, ms⟩, ⟨va1, vc1, pa1, pc1⟩⟩, hms⟩
  dsimp only at hms ⊢
  have hom := hok.of_pls hms
  have hz := at_ok hp (va1, vc1, pa1, pc1)
  have zcl := Prf.len hz
  have eS : seekG (p.at (va1, vc1, pa1, pc1)) q = seekG p q := by rw [← seekG_ct, at_ct, seekG_ct]
  have eO : ofG ms r (p.at (va1, vc1, pa1, pc1)) = ofG ns r p := by rw [ofG_eq hms, ← ofG_ct, at_ct, ofG_ct]
  have ez := ct_eq (at_ct p (va1, vc1, pa1, pc1))
  haveI hz1 : ∀ M [RdC w0 M va1 (bvs p.vl)], RdC w0 M (p.at (va1, vc1, pa1, pc1)).va (bvs (p.at (va1, vc1, pa1, pc1)).vl) := fun M h => h
  haveI hz2 : ∀ M [RdC w0 M pa1 (bvs p.pl.flatten)], RdC w0 M (p.at (va1, vc1, pa1, pc1)).pa (bvs (p.at (va1, vc1, pa1, pc1)).pl.flatten) := fun M h => h
  generalize p.at (va1, vc1, pa1, pc1) = z at *
  repeat' (first | (refine go1 ?_; intros) | ((first | refine vl_caseG rfl rfl rfl rfl ?_ ?_ | refine v_cond rfl ?_ ?_) <;> (intro hb; (try simp only [decide_eq_true_eq, decide_eq_false_iff_not, Bool.not_eq_true', Bool.not_eq_false', ne_eq, Decidable.not_not, Option.isNone_iff_eq_none, not_true_eq_false, not_false_eq_true] at hb); try (exfalso; omega))) | fail)
  refine vl_o rfl (vo_call rfl rfl ?_)
  refine vc_mono (cseekG_vc (hr := hz1 _) (hr2 := hz2 _) w0 _ z q hz hq) ?_
  rintro v L' ⟨x1, d1, x2, d2, rfl, rfl⟩
  rw [eS]
  repeat' (first | (refine go1 ?_; intros) | ((first | refine vl_caseG rfl rfl rfl rfl ?_ ?_ | refine v_cond rfl ?_ ?_) <;> (intro hb; (try simp only [decide_eq_true_eq, decide_eq_false_iff_not, Bool.not_eq_true', Bool.not_eq_false', ne_eq, Decidable.not_not, Option.isNone_iff_eq_none, not_true_eq_false, not_false_eq_true] at hb); try (exfalso; omega))) | fail)
  refine vl_o rfl (vo_call rfl rfl ?_)
  refine vc_mono (rseek_vc w0 _ p q hp hq) ?_
  rintro v L' ⟨y1, e1, y2, e2, rfl, rfl⟩
  generalize seekG p q = T at *
  repeat' (first | (refine go1 ?_; intros) | ((first | refine vl_caseG rfl rfl rfl rfl ?_ ?_ | refine v_cond rfl ?_ ?_) <;> (intro hb; (try simp only [decide_eq_true_eq, decide_eq_false_iff_not, Bool.not_eq_true', Bool.not_eq_false', ne_eq, Decidable.not_not, Option.isNone_iff_eq_none, not_true_eq_false, not_false_eq_true] at hb); try (exfalso; omega))) | fail)
  refine vl_o rfl (vo_call rfl rfl ?_)
  refine vc_mono (cof_vc (hr := hz1 _) (hr2 := hz2 _) w0 _ a1 c1 ms r z rfl hom hz) ?_
  rintro v L' ⟨u1, i1, u2, i2, rfl, rfl⟩
  rw [eO]
  repeat' (first | (refine go1 ?_; intros) | ((first | refine vl_caseG rfl rfl rfl rfl ?_ ?_ | refine v_cond rfl ?_ ?_) <;> (intro hb; (try simp only [decide_eq_true_eq, decide_eq_false_iff_not, Bool.not_eq_true', Bool.not_eq_false', ne_eq, Decidable.not_not, Option.isNone_iff_eq_none, not_true_eq_false, not_false_eq_true] at hb); try (exfalso; omega))) | fail)
  refine vl_o rfl (vo_call rfl rfl ?_)
  refine vc_mono (rof9_vc w0 _ a c ns r p rfl hok hp) ?_
  rintro v L' ⟨v1, j1, v2, j2, rfl, rfl⟩
  generalize ofG ns r p = U at *
  repeat' (first | (refine goE ?_; intros) | ((first | refine vl_caseG rfl rfl rfl rfl ?_ ?_ | refine v_cond rfl ?_ ?_) <;> (intro hb; (try simp only [decide_eq_true_eq, decide_eq_false_iff_not, Bool.not_eq_true', Bool.not_eq_false', ne_eq, Decidable.not_not, Option.isNone_iff_eq_none, not_true_eq_false, not_false_eq_true] at hb); try (exfalso; omega))) | fail)
  refine vl_o rfl (vo_call rfl rfl ?_)
  refine vc_mono (same_vc w0 _ x1 d1 T.1 y1 e1 T.1 rfl rfl) ?_
  rintro v L' ⟨rfl, rfl⟩
  rw [decide_eq_true rfl]
  repeat' (first | (refine goE ?_; intros) | ((first | refine vl_caseG rfl rfl rfl rfl ?_ ?_ | refine v_cond rfl ?_ ?_) <;> (intro hb; (try simp only [decide_eq_true_eq, decide_eq_false_iff_not, Bool.not_eq_true', Bool.not_eq_false', ne_eq, Decidable.not_not, Option.isNone_iff_eq_none, not_true_eq_false, not_false_eq_true] at hb); try (exfalso; omega))) | fail)
  refine vl_o rfl (vo_call rfl rfl ?_)
  refine vc_mono (same_vc w0 _ x2 d2 T.2.1 y2 e2 T.2.1 rfl rfl) ?_
  rintro v L' ⟨rfl, rfl⟩
  rw [decide_eq_true rfl]
  repeat' (first | (refine goE ?_; intros) | ((first | refine vl_caseG rfl rfl rfl rfl ?_ ?_ | refine v_cond rfl ?_ ?_) <;> (intro hb; (try simp only [decide_eq_true_eq, decide_eq_false_iff_not, Bool.not_eq_true', Bool.not_eq_false', ne_eq, Decidable.not_not, Option.isNone_iff_eq_none, not_true_eq_false, not_false_eq_true] at hb); try (exfalso; omega))) | fail)
  refine vl_o rfl (vo_call rfl rfl ?_)
  refine vc_mono (same_vc w0 _ u1 i1 U.1 v1 j1 U.1 rfl rfl) ?_
  rintro v L' ⟨rfl, rfl⟩
  rw [decide_eq_true rfl]
  repeat' (first | (refine goE ?_; intros) | ((first | refine vl_caseG rfl rfl rfl rfl ?_ ?_ | refine v_cond rfl ?_ ?_) <;> (intro hb; (try simp only [decide_eq_true_eq, decide_eq_false_iff_not, Bool.not_eq_true', Bool.not_eq_false', ne_eq, Decidable.not_not, Option.isNone_iff_eq_none, not_true_eq_false, not_false_eq_true] at hb); try (exfalso; omega))) | fail)
  refine vl_o rfl (vo_call rfl rfl ?_)
  refine vc_mono (same_vc w0 _ u2 i2 U.2.1 v2 j2 U.2.1 rfl rfl) ?_
  rintro v L' ⟨rfl, rfl⟩
  rw [decide_eq_true rfl]
  repeat' (first | (refine goE ?_; intros) | ((first | refine vl_caseG rfl rfl rfl rfl ?_ ?_ | refine v_cond rfl ?_ ?_) <;> (intro hb; (try simp only [decide_eq_true_eq, decide_eq_false_iff_not, Bool.not_eq_true', Bool.not_eq_false', ne_eq, Decidable.not_not, Option.isNone_iff_eq_none, not_true_eq_false, not_false_eq_true] at hb); try (exfalso; omega))) | fail)
  refine vl_o rfl (vo_call rfl rfl ?_)
  refine vc_mono (same6_vc w0 _ a1 c1 ms r a c ns r rfl rfl hom hok) ?_
  rintro v L' ⟨rfl, rfl⟩
  rw [decide_eq_true ⟨rfl, hms⟩]
  repeat' (first | (refine goE ?_; intros) | ((first | refine vl_caseG rfl rfl rfl rfl ?_ ?_ | refine v_cond rfl ?_ ?_) <;> (intro hb; (try simp only [decide_eq_true_eq, decide_eq_false_iff_not, Bool.not_eq_true', Bool.not_eq_false', ne_eq, Decidable.not_not, Option.isNone_iff_eq_none, not_true_eq_false, not_false_eq_true] at hb); try (exfalso; omega))) | fail)
  refine vl_o rfl (vo_call rfl rfl ?_)
  refine vc_mono (same7_vc (hr := hz1 _) (hr2 := hz2 _) w0 _ z p hz hp) ?_
  rintro v L' ⟨rfl, rfl⟩
  rw [decide_eq_true ez]
  repeat' (first | (refine goE ?_; intros) | ((first | refine vl_caseG rfl rfl rfl rfl ?_ ?_ | refine v_cond rfl ?_ ?_) <;> (intro hb; (try simp only [decide_eq_true_eq, decide_eq_false_iff_not, Bool.not_eq_true', Bool.not_eq_false', ne_eq, Decidable.not_not, Option.isNone_iff_eq_none, not_true_eq_false, not_false_eq_true] at hb); try (exfalso; omega))) | fail)
  exact rfl
end Go.Proofs.YtmaimkbppnpbnaaDoor
