/-
  A request is read, by the program.
-/
import Derived.Test.YtcpcbgfnglnkcaaDoorWirF
set_option linter.unusedVariables false
set_option linter.unusedSimpArgs false
set_option linter.unusedSectionVars false

namespace Go.Proofs.YtcpcbgfnglnkcaaDoor
open Go Go.RowKit
open Classical

theorem ptsOf_len (k : UInt8) : (ptsOf k).length ≤ 10 := by
  unfold ptsOf
  split
  · simp
  split
  · simp
  split
  · simp
  split
  · simp
  · simp
set_option maxRecDepth 100000 in
set_option maxHeartbeats 4000000 in
theorem wreadAsk_vc (w0 : World) (L : List Asn) [hK : RdA w0 (some ⟨1, 0, none⟩) (wds K64)] (ab : Option Addr) (cb : Nat) (B : List UInt8) {n : Nat} (hn : n = B.length) (hc : B.length ≤ cb) (hl : B.length ≤ 100000) [hr : RdC w0 L ab (bvs B)] :
    VC Tryd.prog w0 23 [.slice ab n cb] L fun v L' => v = .tuple #[.agg (readP B).1.cells.toArray, .int .i64 (readP B).2] ∧ L' = L := by
  subst hn
  refine vc_ent ?_
  refine vc_in rfl rfl ?_
  cases B with
  | nil =>
    have e : readP [] = (zA, 220) := rfl
    rw [e]
    repeat' (first | (refine go1 ?_; intros) | (refine goCC ?_ ?_ <;> (intro hb; (try simp only [hSQ] at hb); try (exfalso; omega))) | fail)
    all_goals first | (exfalso; simp at *; done) | skip
    rw [zA_cells]
    exact ⟨L, sei _ _ _, rfl, rfl⟩
  | cons k t =>
    obtain ⟨m, hm⟩ : ∃ m, m = (k :: t).length := ⟨_, rfl⟩
    rw [← hm] at hc hl ⊢
    rw [List.length_cons] at hm
    have hg' : (bvs (k :: t))[0]? = some (.int .u8 (k.toNat : Nat)) := rfl
    have hpos : 0 < (bvs (k :: t)).length := by simp
    have hkb := k.toNat_lt
    have htl : t.length ≤ 100000 := by omega
    have hzo := zK_ok k
    have hzl := Ask.len hzo
    have f0 : (zK k).cells[0 + 0]? = some (.int .u8 (k.toNat : Nat)) := rfl
    have hset0 := Ask.set0 zA_ok k
    rw [← zA_cells] at hset0
    rw [show ({ zA with kind := k } : Ask).cells = (zK k).cells from rfl] at hset0
    haveI hoz : OC (zK k).cells := oc_ask _
    obtain ⟨zc, hzc⟩ : ∃ zc, zc = (zK k).cells := ⟨_, rfl⟩
    rw [← hzc] at f0 hzl hset0 hoz
    haveI hdr : RdC w0 L (subA ab 1 cb 1) (bvs t) := rd_drop (w0 := w0) (L := L) (a := ab) (l := k :: t) 1 cb (by rw [List.length_cons]; omega)
    have hppl := ptsOf_len k
    have hrd0 : ¬ (k.toNat = 1 ∧ t.length = 120 ∧ (txRead t).2 ≠ 0) → readP (k :: t) = if okK k = true ∧ (foldP (ptsOf k) ⟨t, false, zK k⟩).bad = false ∧ (foldP (ptsOf k) ⟨t, false, zK k⟩).r = [] then ((foldP (ptsOf k) ⟨t, false, zK k⟩).a, 0) else (zA, 220) := fun h => by rw [readP, if_neg h]; rfl
    by_cases hk1 : k.toNat = 1
    · by_cases hl1 : t.length = 120
      · repeat' (first | (refine go1 ?_; intros) | (refine goCC ?_ ?_ <;> (intro hb; (try simp only [hSQ] at hb); try (exfalso; omega))) | fail)
        all_goals first | (exfalso; omega) | skip
        rename_i g2 _ _
        rw [hset0]
        refine clV ?_
        refine vc_mono (txread_vc w0 _ (subA ab 1 cb 1) (cb - 1) t (by omega) (by omega) (by omega)) ?_
        rintro v L' ⟨rfl, rfl⟩
        have hxo := txRead_ok t
        by_cases hE : (txRead t).2 = 0
        · have hread := hrd0 (fun e => e.2.2 hE)
          rw [hE]
          generalize (txRead t).1 = x at *
          have hxl := Tx.len hxo
          repeat' (first | (refine go1 ?_; intros) | (refine goCC ?_ ?_ <;> (intro hb; (try simp only [hSQ] at hb); try (exfalso; omega))) | fail)
          refine clV ?_
          refine vc_pre (sei w0 _ (blk g2 55 zc :: L)) ?_
          rw [hzc]
          refine vc_mono (wasks_vc w0 _ g2 (zK k) (zK_ok k)) ?_
          rintro v L' ⟨ap, cp, gp, rfl, rfl⟩
          rw [show (zK k).kind = k from rfl]
          generalize hpp : ptsOf k = pp at *
          repeat' (first | (refine go1 ?_; intros) | (refine goCC ?_ ?_ <;> (intro hb; (try simp only [hSQ] at hb); try (exfalso; omega))) | fail)
          refine clV ?_
          refine vc_mono (clone_vc w0 _ (subA ab 1 cb 1) (cb - 1) t (by omega) (by omega)) ?_
          rintro v L' ⟨a2, c2, hc2, rfl, rfl⟩
          repeat' (first | (refine goB ?_; intros) | (refine goCC ?_ ?_ <;> (intro hb; (try simp only [hSQ] at hb); try (exfalso; omega))) | fail)
          refine vl_q rfl rfl rfl rfl (vq_buildP (cs := [.slice a2 t.length c2, .bool false]) rfl (by simp [okS, Value.cells]) rfl) ?_
          repeat' (first | (refine go1 ?_; intros) | (refine goCC ?_ ?_ <;> (intro hb; (try simp only [hSQ] at hb); try (exfalso; omega))) | fail)
          refine clV ?_
          rename_i gr
          refine vc_pre (sei w0 _ (rsM gr a2 c2 ⟨t, false, zK k⟩ ap cp g2 gp pp (ownB a2 c2 t :: L))) ?_
          refine vc_mono (wparts_vc w0 (ownB a2 c2 t :: L) gr a2 c2 ⟨t, false, zK k⟩ ap cp g2 gp pp (zK_ok k) hc2 (by dsimp only; omega) hppl) ?_
          rintro v L' ⟨ar2, cr2, rfl⟩
          have hSo := foldP_ok pp (s := ⟨t, false, zK k⟩) (zK_ok k)
          have hSr := foldP_le pp ⟨t, false, zK k⟩
          generalize foldP pp ⟨t, false, zK k⟩ = S at *
          have hSl := Ask.len hSo
          haveI hoS : OC S.a.cells := oc_ask _
          unfold rsM askM
          rw [hread]
          have hbadE : ¬ (okK k = true ∧ S.bad = false ∧ S.r = []) → (if okK k = true ∧ S.bad = false ∧ S.r = [] then (S.a, (0 : Int)) else (zA, 220)) = (zA, 220) := fun h => if_neg h
          have hgoodE : (okK k = true ∧ S.bad = false ∧ S.r = []) → (if okK k = true ∧ S.bad = false ∧ S.r = [] then (S.a, (0 : Int)) else (zA, 220)) = (S.a, 0) := fun h => if_pos h
          cases hok : okK k
          · rw [if_neg (by simp)]
            repeat' (first | (refine go1 ?_; intros) | (refine goCC ?_ ?_ <;> (intro hb; (try simp only [hSQ] at hb); try (exfalso; omega))) | fail)
            rw [zA_cells]
            exact ⟨L, sei _ _ _, rfl, rfl⟩
          cases hbd : S.bad
          rotate_left
          · rw [if_neg (by simp)]
            repeat' (first | (refine go1 ?_; intros) | (refine goCC ?_ ?_ <;> (intro hb; (try simp only [hSQ] at hb); try (exfalso; omega))) | fail)
            rw [zA_cells]
            exact ⟨L, sei _ _ _, rfl, rfl⟩
          by_cases hr0 : S.r = []
          · rw [if_pos ⟨rfl, rfl, hr0⟩, hr0]
            repeat' (first | (refine go1 ?_; intros) | (refine goCC ?_ ?_ <;> (intro hb; (try simp only [hSQ] at hb); try (exfalso; omega))) | fail)
            exact ⟨L, sei _ _ _, rfl, rfl⟩
          · rw [if_neg (fun e => hr0 e.2.2)]
            have hr1 : 0 < S.r.length := Nat.pos_of_ne_zero (fun h => hr0 (List.eq_nil_of_length_eq_zero h))
            repeat' (first | (refine go1 ?_; intros) | (refine goCC ?_ ?_ <;> (intro hb; (try simp only [hSQ] at hb); try (exfalso; omega))) | fail)
            all_goals first | (exfalso; omega) | (rw [zA_cells]; exact ⟨L, sei _ _ _, rfl, rfl⟩)
        · have hread : readP (k :: t) = (zA, (txRead t).2) := by rw [readP, if_pos ⟨hk1, hl1, hE⟩]
          rw [hread]
          generalize (txRead t).1 = x at *
          generalize (txRead t).2 = E at *
          have hxl := Tx.len hxo
          repeat' (first | (refine go1 ?_; intros) | (refine goCC ?_ ?_ <;> (intro hb; (try simp only [hSQ] at hb); try (exfalso; omega))) | fail)
          all_goals first | (exfalso; omega) | (rw [zA_cells]; exact ⟨L, sei _ _ _, rfl, rfl⟩)
      · have hread := hrd0 (fun e => hl1 e.2.1)
        repeat' (first | (refine go1 ?_; intros) | (refine goCC ?_ ?_ <;> (intro hb; (try simp only [hSQ] at hb); try (exfalso; omega))) | fail)
        all_goals first | (exfalso; omega) | skip
        rename_i g2 _ _
        rw [hset0]
        refine clV ?_
        refine vc_pre (sei w0 _ (blk g2 55 zc :: L)) ?_
        rw [hzc]
        refine vc_mono (wasks_vc w0 _ g2 (zK k) (zK_ok k)) ?_
        rintro v L' ⟨ap, cp, gp, rfl, rfl⟩
        rw [show (zK k).kind = k from rfl]
        generalize hpp : ptsOf k = pp at *
        repeat' (first | (refine go1 ?_; intros) | (refine goCC ?_ ?_ <;> (intro hb; (try simp only [hSQ] at hb); try (exfalso; omega))) | fail)
        refine clV ?_
        refine vc_mono (clone_vc w0 _ (subA ab 1 cb 1) (cb - 1) t (by omega) (by omega)) ?_
        rintro v L' ⟨a2, c2, hc2, rfl, rfl⟩
        repeat' (first | (refine goB ?_; intros) | (refine goCC ?_ ?_ <;> (intro hb; (try simp only [hSQ] at hb); try (exfalso; omega))) | fail)
        refine vl_q rfl rfl rfl rfl (vq_buildP (cs := [.slice a2 t.length c2, .bool false]) rfl (by simp [okS, Value.cells]) rfl) ?_
        repeat' (first | (refine go1 ?_; intros) | (refine goCC ?_ ?_ <;> (intro hb; (try simp only [hSQ] at hb); try (exfalso; omega))) | fail)
        refine clV ?_
        rename_i gr
        refine vc_pre (sei w0 _ (rsM gr a2 c2 ⟨t, false, zK k⟩ ap cp g2 gp pp (ownB a2 c2 t :: L))) ?_
        refine vc_mono (wparts_vc w0 (ownB a2 c2 t :: L) gr a2 c2 ⟨t, false, zK k⟩ ap cp g2 gp pp (zK_ok k) hc2 (by dsimp only; omega) hppl) ?_
        rintro v L' ⟨ar2, cr2, rfl⟩
        have hSo := foldP_ok pp (s := ⟨t, false, zK k⟩) (zK_ok k)
        have hSr := foldP_le pp ⟨t, false, zK k⟩
        generalize foldP pp ⟨t, false, zK k⟩ = S at *
        have hSl := Ask.len hSo
        haveI hoS : OC S.a.cells := oc_ask _
        unfold rsM askM
        rw [hread]
        have hbadE : ¬ (okK k = true ∧ S.bad = false ∧ S.r = []) → (if okK k = true ∧ S.bad = false ∧ S.r = [] then (S.a, (0 : Int)) else (zA, 220)) = (zA, 220) := fun h => if_neg h
        have hgoodE : (okK k = true ∧ S.bad = false ∧ S.r = []) → (if okK k = true ∧ S.bad = false ∧ S.r = [] then (S.a, (0 : Int)) else (zA, 220)) = (S.a, 0) := fun h => if_pos h
        cases hok : okK k
        · rw [if_neg (by simp)]
          repeat' (first | (refine go1 ?_; intros) | (refine goCC ?_ ?_ <;> (intro hb; (try simp only [hSQ] at hb); try (exfalso; omega))) | fail)
          rw [zA_cells]
          exact ⟨L, sei _ _ _, rfl, rfl⟩
        cases hbd : S.bad
        rotate_left
        · rw [if_neg (by simp)]
          repeat' (first | (refine go1 ?_; intros) | (refine goCC ?_ ?_ <;> (intro hb; (try simp only [hSQ] at hb); try (exfalso; omega))) | fail)
          rw [zA_cells]
          exact ⟨L, sei _ _ _, rfl, rfl⟩
        by_cases hr0 : S.r = []
        · rw [if_pos ⟨rfl, rfl, hr0⟩, hr0]
          repeat' (first | (refine go1 ?_; intros) | (refine goCC ?_ ?_ <;> (intro hb; (try simp only [hSQ] at hb); try (exfalso; omega))) | fail)
          exact ⟨L, sei _ _ _, rfl, rfl⟩
        · rw [if_neg (fun e => hr0 e.2.2)]
          have hr1 : 0 < S.r.length := Nat.pos_of_ne_zero (fun h => hr0 (List.eq_nil_of_length_eq_zero h))
          repeat' (first | (refine go1 ?_; intros) | (refine goCC ?_ ?_ <;> (intro hb; (try simp only [hSQ] at hb); try (exfalso; omega))) | fail)
          all_goals first | (exfalso; omega) | (rw [zA_cells]; exact ⟨L, sei _ _ _, rfl, rfl⟩)
    · have hread := hrd0 (fun e => hk1 e.1)
      repeat' (first | (refine go1 ?_; intros) | (refine goCC ?_ ?_ <;> (intro hb; (try simp only [hSQ] at hb); try (exfalso; omega))) | fail)
      all_goals first | (exfalso; omega) | skip
      rename_i g2 _
      rw [hset0]
      refine clV ?_
      refine vc_pre (sei w0 _ (blk g2 55 zc :: L)) ?_
      rw [hzc]
      refine vc_mono (wasks_vc w0 _ g2 (zK k) (zK_ok k)) ?_
      rintro v L' ⟨ap, cp, gp, rfl, rfl⟩
      rw [show (zK k).kind = k from rfl]
      generalize hpp : ptsOf k = pp at *
      repeat' (first | (refine go1 ?_; intros) | (refine goCC ?_ ?_ <;> (intro hb; (try simp only [hSQ] at hb); try (exfalso; omega))) | fail)
      refine clV ?_
      refine vc_mono (clone_vc w0 _ (subA ab 1 cb 1) (cb - 1) t (by omega) (by omega)) ?_
      rintro v L' ⟨a2, c2, hc2, rfl, rfl⟩
      repeat' (first | (refine goB ?_; intros) | (refine goCC ?_ ?_ <;> (intro hb; (try simp only [hSQ] at hb); try (exfalso; omega))) | fail)
      refine vl_q rfl rfl rfl rfl (vq_buildP (cs := [.slice a2 t.length c2, .bool false]) rfl (by simp [okS, Value.cells]) rfl) ?_
      repeat' (first | (refine go1 ?_; intros) | (refine goCC ?_ ?_ <;> (intro hb; (try simp only [hSQ] at hb); try (exfalso; omega))) | fail)
      refine clV ?_
      rename_i gr
      refine vc_pre (sei w0 _ (rsM gr a2 c2 ⟨t, false, zK k⟩ ap cp g2 gp pp (ownB a2 c2 t :: L))) ?_
      refine vc_mono (wparts_vc w0 (ownB a2 c2 t :: L) gr a2 c2 ⟨t, false, zK k⟩ ap cp g2 gp pp (zK_ok k) hc2 (by dsimp only; omega) hppl) ?_
      rintro v L' ⟨ar2, cr2, rfl⟩
      have hSo := foldP_ok pp (s := ⟨t, false, zK k⟩) (zK_ok k)
      have hSr := foldP_le pp ⟨t, false, zK k⟩
      generalize foldP pp ⟨t, false, zK k⟩ = S at *
      have hSl := Ask.len hSo
      haveI hoS : OC S.a.cells := oc_ask _
      unfold rsM askM
      rw [hread]
      have hbadE : ¬ (okK k = true ∧ S.bad = false ∧ S.r = []) → (if okK k = true ∧ S.bad = false ∧ S.r = [] then (S.a, (0 : Int)) else (zA, 220)) = (zA, 220) := fun h => if_neg h
      have hgoodE : (okK k = true ∧ S.bad = false ∧ S.r = []) → (if okK k = true ∧ S.bad = false ∧ S.r = [] then (S.a, (0 : Int)) else (zA, 220)) = (S.a, 0) := fun h => if_pos h
      cases hok : okK k
      · rw [if_neg (by simp)]
        repeat' (first | (refine go1 ?_; intros) | (refine goCC ?_ ?_ <;> (intro hb; (try simp only [hSQ] at hb); try (exfalso; omega))) | fail)
        rw [zA_cells]
        exact ⟨L, sei _ _ _, rfl, rfl⟩
      cases hbd : S.bad
      rotate_left
      · rw [if_neg (by simp)]
        repeat' (first | (refine go1 ?_; intros) | (refine goCC ?_ ?_ <;> (intro hb; (try simp only [hSQ] at hb); try (exfalso; omega))) | fail)
        rw [zA_cells]
        exact ⟨L, sei _ _ _, rfl, rfl⟩
      by_cases hr0 : S.r = []
      · rw [if_pos ⟨rfl, rfl, hr0⟩, hr0]
        repeat' (first | (refine go1 ?_; intros) | (refine goCC ?_ ?_ <;> (intro hb; (try simp only [hSQ] at hb); try (exfalso; omega))) | fail)
        exact ⟨L, sei _ _ _, rfl, rfl⟩
      · rw [if_neg (fun e => hr0 e.2.2)]
        have hr1 : 0 < S.r.length := Nat.pos_of_ne_zero (fun h => hr0 (List.eq_nil_of_length_eq_zero h))
        repeat' (first | (refine go1 ?_; intros) | (refine goCC ?_ ?_ <;> (intro hb; (try simp only [hSQ] at hb); try (exfalso; omega))) | fail)
        all_goals first | (exfalso; omega) | (rw [zA_cells]; exact ⟨L, sei _ _ _, rfl, rfl⟩)
end Go.Proofs.YtcpcbgfnglnkcaaDoor
