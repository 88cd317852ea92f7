/-
  The chapter's first examples (requests and replies): they hold.
-/
import Derived.Test.YtcpcbgfnglnkcaaDoorWirR
import Derived.Test.YtcpcbgfnglnkcaaDoorWirJ
set_option linter.unusedVariables false
set_option linter.unusedSimpArgs false
set_option linter.unusedSectionVars false

namespace Go.Proofs.YtcpcbgfnglnkcaaDoor
open Go Go.RowKit
open Classical

def a5 : Ask := { zA with kind := 5 }
def a7 : Ask := { zA with kind := 7, sub := 258 }
def r5 : Rp := { rp0 with kind := 5, code := 250 }
theorem a5_ok : a5.ok := ⟨zA_ok.tx, zA_ok.key, zA_ok.h1, zA_ok.h2, zA_ok.s1, zA_ok.s2⟩
theorem a7_ok : a7.ok := ⟨zA_ok.tx, zA_ok.key, zA_ok.h1, zA_ok.h2, by decide, by decide⟩
theorem a5_may : mayA a5 = true := decide_eq_true ⟨by decide, fun h => absurd h (by decide), by unfold bareA; rw [if_neg (by decide), if_neg (by decide), if_neg (by decide), if_neg (by decide)]; rfl, by decide, by decide, by decide, by decide⟩
theorem a7_may : mayA a7 = true := decide_eq_true ⟨by decide, fun h => absurd h (by decide), by unfold bareA; rw [if_neg (by decide), if_neg (by decide), if_neg (by decide), if_pos (by decide)]; rfl, by decide, by decide, by decide, by decide⟩
theorem a5_of : ofA a5 = [5] := by unfold ofA; rw [if_neg (by decide), if_neg (by decide), if_neg (by decide), if_neg (by decide)]; rfl
theorem a7_of : ofA a7 = [7, 0, 0, 1, 2] := by unfold ofA; rw [if_neg (by decide), if_neg (by decide), if_neg (by decide), if_pos (by decide)]; decide
theorem r5_ok : r5.ok := ⟨⟨by decide, by decide⟩, rp0_ok.height, rp0_ok.dig, rp0_ok.nonce, rp0_ok.bal, rp0_ok.rc, rp0_ok.recc, rp0_ok.prf, rp0_ok.sub, rp0_ok.num, rp0_ok.hd, rp0_ok.hdh, rp0_ok.hdm⟩
theorem Prf.eqv_refl (p : Prf) : p.eqv p := ⟨rfl, rfl, rfl, rfl, rfl⟩
theorem Rp.same_refl (r : Rp) : r.same r := ⟨r.prf.eqv_refl, rfl, rfl, rfl, rfl, ⟨rfl, rfl⟩, rfl, rfl, ⟨rfl, rfl⟩⟩
theorem rpC_r5 : rpC 5 250 = r5 := rfl
theorem r5_put : replyC r5 = ([5, 0, 250], 0) := by
  have h1 : r5.inR = true := by rw [← rpC_r5]; exact rpC_in (by decide) (by decide) (by decide)
  have h2 : (rpC r5.kind.toNat r5.code.toNat).same r5 := by
    show (rpC 5 250).same r5
    rw [rpC_r5]
    exact r5.same_refl
  unfold replyC
  rw [if_pos ⟨h1, h2⟩]
  decide
set_option maxRecDepth 100000 in
set_option maxHeartbeats 4000000 in
theorem alive22_vc (w0 : World) (L : List Asn) [hK : RdA w0 (some ⟨1, 0, none⟩) (wds K64)] :
    VC Tryd.prog w0 4 [] L fun v L' => v = .bool true ∧ L' = L := by
  refine vc_ent ?_
  refine vc_in rfl rfl ?_
  repeat' (first | (refine goB ?_; intros) | (refine goCC ?_ ?_ <;> (intro hb; (try simp only [hSQ] at hb); try (exfalso; omega))) | fail)
  refine vl_q rfl rfl rfl rfl (vq_buildP (cs := a5.cells) rfl (by simp [okS, Value.cells]) rfl) ?_
  repeat' (first | (refine go1 ?_; intros) | (refine goCC ?_ ?_ <;> (intro hb; (try simp only [hSQ] at hb); try (exfalso; omega))) | fail)
  refine clV ?_
  refine vc_mono (waskAsk_vc w0 _ a5 a5_ok) ?_
  rw [if_pos a5_may, if_pos a5_may, a5_of]
  rintro v L' ⟨b1, c1, rfl, rfl⟩
  repeat' (first | (refine goB ?_; intros) | (refine goCC ?_ ?_ <;> (intro hb; (try simp only [hSQ] at hb); try (exfalso; omega))) | fail)
  refine vl_q rfl rfl rfl rfl (vq_buildP (cs := a7.cells) rfl (by simp [okS, Value.cells]) rfl) ?_
  repeat' (first | (refine go1 ?_; intros) | (refine goCC ?_ ?_ <;> (intro hb; (try simp only [hSQ] at hb); try (exfalso; omega))) | fail)
  refine clV ?_
  refine vc_mono (waskAsk_vc w0 _ a7 a7_ok) ?_
  rw [if_pos a7_may, if_pos a7_may, a7_of]
  rintro v L' ⟨b2, c2, rfl, rfl⟩
  repeat' (first | (refine goB ?_; intros) | (refine goCC ?_ ?_ <;> (intro hb; (try simp only [hSQ] at hb); try (exfalso; omega))) | fail)
  refine vl_q rfl rfl rfl rfl (vq_buildP (cs := r5.cells) rfl (by simp [okS, Value.cells]) rfl) ?_
  repeat' (first | (refine go1 ?_; intros) | (refine goCC ?_ ?_ <;> (intro hb; (try simp only [hSQ] at hb); try (exfalso; omega))) | fail)
  refine clV ?_
  refine vc_mono (replyC_vc (hr := rdC_nil _ _ _) (hr2 := rdC_nil _ _ _) w0 _ r5 r5_ok (by decide)) ?_
  rw [r5_put]
  rintro v L' ⟨b3, c3, rfl, rfl⟩
  dsimp only
  repeat' (first | (refine go1 ?_; intros) | (refine goCC ?_ ?_ <;> (intro hb; (try simp only [hSQ] at hb); try (exfalso; omega))) | fail)
  rw [show ([.int .u8 5] : List Value) = bvs [5] from rfl]
  refine clV ?_
  refine vc_mono (same_vc w0 _ b1 c1 [5] _ 1 [5] rfl rfl) ?_
  rintro v L' ⟨rfl, rfl⟩
  rw [decide_eq_true rfl]
  repeat' (first | (refine go1 ?_; intros) | (refine goCC ?_ ?_ <;> (intro hb; (try simp only [hSQ] at hb); try (exfalso; omega))) | fail)
  rw [show ([.int .u8 7, .int .u8 0, .int .u8 0, .int .u8 1, .int .u8 2] : List Value) = bvs [7, 0, 0, 1, 2] from rfl]
  refine clV ?_
  refine vc_mono (same_vc w0 _ b2 c2 [7, 0, 0, 1, 2] _ 5 [7, 0, 0, 1, 2] rfl rfl) ?_
  rintro v L' ⟨rfl, rfl⟩
  rw [decide_eq_true rfl]
  repeat' (first | (refine go1 ?_; intros) | (refine goCC ?_ ?_ <;> (intro hb; (try simp only [hSQ] at hb); try (exfalso; omega))) | fail)
  rw [show ([.int .u8 5, .int .u8 0, .int .u8 250] : List Value) = bvs [5, 0, 250] from rfl]
  refine clV ?_
  refine vc_mono (same_vc w0 _ b3 c3 [5, 0, 250] _ 3 [5, 0, 250] rfl rfl) ?_
  rintro v L' ⟨rfl, rfl⟩
  rw [decide_eq_true rfl]
  repeat' (first | (refine go1 ?_; intros) | (refine goCC ?_ ?_ <;> (intro hb; (try simp only [hSQ] at hb); try (exfalso; omega))) | fail)
  exact ⟨L, sei _ _ _, rfl, rfl⟩
end Go.Proofs.YtcpcbgfnglnkcaaDoor
