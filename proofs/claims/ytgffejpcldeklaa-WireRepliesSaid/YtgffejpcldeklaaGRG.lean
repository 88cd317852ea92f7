/-
  A reply's bytes (the document's). A proof among bytes: the document reads it (the walk). The document reads a reply (the walk). The law of WireReplies.
-/
import Derived.Test.YtgffejpcldeklaaGRF
import Derived.Test.YtgffejpcldeklaaGRC
import Derived.Test.YtgffejpcldeklaaGF
import Derived.Test.YtgffejpcldeklaaGRD
set_option linter.unusedVariables false
set_option linter.unusedSimpArgs false
set_option linter.unusedSectionVars false
set_option maxRecDepth 100000
set_option maxHeartbeats 8000000
namespace Go.Proofs.Ytgffejpcldeklaa
open Go Go.RowKit
open Classical

theorem rofReply_vc (w0 : World) (L : List Asn) (r : Rp) (h : r.ok) (hm : MayR r) (hvl : r.prf.vl.length ≤ 4096) (hpl : r.prf.pl.length ≤ 300) [hr : RdC w0 L r.prf.va (bvs r.prf.vl)] [hr2 : RdC w0 L r.prf.pa (bvs r.prf.pl.flatten)] :
    VC Try.prog w0 19 [.agg r.cells.toArray] L fun v L' => ∃ a' c', v = .slice a' (ofR r).length c' ∧ L' = ownB a' c' (ofR r) :: L := by
  have hcl := Rp.len h
  have f0 := Rp.f0 h
  have f1 := Rp.f1 h
  have f2 := Rp.f2 h
  have f3 := Rp.f3 h
  have f4 := Rp.f4 h
  have f5 := Rp.f5 h
  have f6 := Rp.f6 h
  have f7 := Rp.f7 h
  have fg := Rp.fg h
  have fe := Rp.fe h
  have e0 := Evt.f0 r.ev
  have e1 := Evt.f1 r.ev
  have e2 := Evt.f2 h.hd
  have hel := Evt.len h.hd
  have hhl := Hd.len h.hd
  have hrl := Rec.len h.rc
  have hpl0 := Prf.len h.prf
  haveI hoe : OC r.ev.cells := oc_evt _
  haveI hoh : OC r.ev.hd.cells := oc_hd _
  haveI hor : OC r.rc.cells := oc_rec _
  haveI hop : OC r.prf.cells := oc_prf _
  haveI hoc : OC r.cells := oc_rp r
  have h0 := hm.h0
  have h1 := hm.h1
  have s0 := hm.s0
  have s1 := hm.s1
  have n0 := hm.n0
  have n1 := hm.n1
  have q0 := hm.c0
  have q1 := hm.c1
  have hdl32 : r.dig.length = 32 * 1 := h.dig
  have hnn := h.nonce
  have hbb := h.bal
  obtain ⟨H0, hH0⟩ : ∃ H0, H0 = r.kind :: digs r.code.toNat 2 := ⟨_, rfl⟩
  have hH0l : H0.length = 1 + 2 := by rw [hH0, List.length_cons, digs_length]
  have hof : ofR r = H0 ++ (if r.code ≠ 0 then [] else restR r) := by rw [hH0]; rfl
  refine vc_ent ?_
  refine vc_in rfl rfl ?_
  obtain ⟨cs, hcs⟩ : ∃ cs, cs = r.cells := ⟨_, rfl⟩
  rw [← hcs] at hcl f0 f1 f2 f3 f4 f5 f6 f7 fg fe hoc ⊢
  haveI r3 : ∀ g M, RdC w0 (blk g 41 cs :: M) (some ⟨g, 0 + 3, none⟩) (bvs r.dig) := fun g M => rdC_part (0 + 3) 32 f3
  repeat' (first | (refine go1 ?_; intros) | (refine goCC ?_ ?_ <;> (intro hb; (try simp only [hSQ] at hb); try (exfalso; omega))) | fail)
  rename_i g1
  refine v_cut (Option Addr × Nat) [1] rfl (fun z => [(3, .slice z.1 H0.length z.2)]) (fun z => ownB z.1 z.2 H0 :: blk g1 41 cs :: L) ?_ ?_
  · have hd2 := digs_length r.code.toNat 2
    obtain ⟨D, hD⟩ : ∃ D, D = digs r.code.toNat 2 := ⟨_, rfl⟩
    rw [← hD] at hd2 hH0
    have e3 : ∀ a3 c3, own 5 1 a3 (1 + 2) c3 ([.int .u8 (r.kind.toNat : Nat)] ++ bvs D) = ownB a3 c3 H0 := fun a3 c3 => by
      unfold ownB
      rw [hH0l, hH0]
      rfl
    refine v_id ?_
    refine v_draw0 [] (by kernel_rfl) ?_
    refine tA 0 ?_
    refine tA 1 ?_
    refine tA 3 ?_
    refine tA 4 ?_
    refine va_two 2 5 (by kernel_rfl) rfl rfl rfl rfl ?_ ?_
    · (refine goV ?_; intros)
      refine ⟨.inr (sei _ _ _), ?_⟩
      refine va_one 5 (by kernel_rfl) rfl rfl ?_
      first | refine vo_call rfl rfl ?_ | refine vo_callV rfl rfl rfl ?_
      refine vc_mono (rnumber22_vc w0 _ r.code 2 q0 (by omega) (by decide) (by decide)) ?_
      rintro v L' ⟨a2, c2, rfl, rfl⟩
      rw [← hD]
      refine ⟨.inr (sei _ _ _), ?_⟩
      refine va_one 6 (by kernel_rfl) rfl rfl ?_
      (refine goV ?_; intros)
      refine ⟨.inr (sei _ _ _), ?_⟩
      refine tA 7 ?_
      refine va_done (by kernel_rfl) ?_
      rename_i a3 c3 _ _
      rw [e3, ← hH0l]
      exact ⟨rfl, (a3, c3), by (exact sbS), sei _ _ _⟩
    · first | refine vo_call rfl rfl ?_ | refine vo_callV rfl rfl rfl ?_
      refine vc_mono (rnumber22_vc w0 _ r.code 2 q0 (by omega) (by decide) (by decide)) ?_
      rintro v L' ⟨a2, c2, rfl, rfl⟩
      rw [← hD]
      refine ⟨.inr (sei _ _ _), ?_⟩
      refine va_one 2 (by kernel_rfl) rfl rfl ?_
      (refine goV ?_; intros)
      refine ⟨.inr (sei _ _ _), ?_⟩
      refine va_one 6 (by kernel_rfl) rfl rfl ?_
      (refine goV ?_; intros)
      refine ⟨.inr (sei _ _ _), ?_⟩
      refine tA 7 ?_
      refine va_done (by kernel_rfl) ?_
      rename_i a3 c3 _ _
      rw [e3, ← hH0l]
      exact ⟨rfl, (a3, c3), by (exact sbS), sei _ _ _⟩
  rintro ⟨a3, c3⟩
  dsimp only
  by_cases hc0 : r.code ≠ 0
  · rw [if_pos hc0, List.append_nil] at hof
    rw [hof]
    repeat' (first | (refine go1 ?_; intros) | (refine goCC ?_ ?_ <;> (intro hb; (try simp only [hSQ] at hb); try (exfalso; omega))) | fail)
    all_goals first | (exfalso; omega) | skip
    exact ⟨_, sei w0 _ (ownB a3 c3 H0 :: L), a3, c3, rfl, rfl⟩
  rw [if_neg hc0] at hof
  have hz : r.code = 0 := by omega
  unfold restR at hof
  have d8 := digs_length r.height.toNat 8
  have hrp := hm.rc hz
  have hpp := hm.prf hz
  clear hH0
  by_cases k2 : r.kind.toNat = 2
  · rw [if_pos k2] at hof
    have al := accB_len r.nonce r.bal
    rw [hof]
    repeat' (first | (refine go1 ?_; intros) | (refine goCC ?_ ?_ <;> (intro hb; (try simp only [hSQ] at hb); try (exfalso; omega))) | fail)
    all_goals first | (exfalso; omega) | skip
    refine clV ?_
    refine vc_mono (raccB_vc w0 _ r.nonce r.bal hnn hbb) ?_
    rintro v L' ⟨a4, c4, rfl, rfl⟩
    generalize accB r.nonce r.bal = X at *
    repeat' (first | (refine go1 ?_; intros) | (refine goCC ?_ ?_ <;> (intro hb; (try simp only [hSQ] at hb); try (exfalso; omega))) | fail)
    rename_i a5 c5 _ _
    rw [← own_app a5 c5 H0 X X.length rfl]
    exact ⟨_, sei w0 _ (ownB a5 c5 (H0 ++ X) :: L), a5, c5, by rw [List.length_append], rfl⟩
  rw [if_neg k2] at hof
  by_cases k3 : r.kind.toNat = 3
  · rw [if_pos k3] at hof
    have rl := recBytes_len h.rc
    repeat' (first | (refine go1 ?_; intros) | (refine goCC ?_ ?_ <;> (intro hb; (try simp only [hSQ] at hb); try (exfalso; omega))) | fail)
    all_goals first | (exfalso; omega) | skip
    refine clV ?_
    refine vc_mono (rnumber22_vc w0 _ r.height 8 h0 (by omega) (by decide) (by decide)) ?_
    rintro v L' ⟨a4, c4, rfl, rfl⟩
    rw [show ownB a4 c4 (digs r.height.toNat 8) = own 5 1 a4 8 c4 (bvs (digs r.height.toNat 8)) by unfold ownB; rw [d8]]
    generalize digs r.height.toNat 8 = X at *
    repeat' (first | (refine go1 ?_; intros) | (refine goCC ?_ ?_ <;> (intro hb; (try simp only [hSQ] at hb); try (exfalso; omega))) | fail)
    refine clV ?_
    refine vc_mono (rrOf_vc w0 _ r.rc h.rc (hrp k3)) ?_
    rintro v L' ⟨a5, c5, rfl, rfl⟩
    generalize recBytes r.rc = Y at *
    rename_i a6 c6 _ _
    rw [← own_app a6 c6 H0 X 8 d8, show H0.length + 8 = (H0 ++ X).length by rw [List.length_append, d8]]
    rw [hof, ← List.append_assoc]
    have hl1 : (H0 ++ X).length = 11 := by rw [List.length_append, d8, hH0l]
    generalize H0 ++ X = T at *
    repeat' (first | (refine go1 ?_; intros) | (refine goCC ?_ ?_ <;> (intro hb; (try simp only [hSQ] at hb); try (exfalso; omega))) | fail)
    rename_i a7 c7 _ _
    rw [← own_app a7 c7 T Y Y.length rfl]
    exact ⟨_, sei w0 _ (ownB a7 c7 (T ++ Y) :: L), a7, c7, by rw [List.length_append], rfl⟩
  rw [if_neg k3] at hof
  by_cases k4 : r.kind.toNat = 4
  · rw [if_pos k4] at hof
    repeat' (first | (refine go1 ?_; intros) | (refine goCC ?_ ?_ <;> (intro hb; (try simp only [hSQ] at hb); try (exfalso; omega))) | fail)
    all_goals first | (exfalso; omega) | skip
    (refine v_drawX [7] 0 (by kernel_rfl) ?_ <;> (refine tA 0 ?_) <;> (refine tA 1 ?_) <;> (refine tA 2 ?_) <;> (refine tA 5 ?_) <;> (refine tA 6 ?_))
    first | refine va_one 3 (by kernel_rfl) rfl rfl (vo_call rfl rfl ?_) | refine va_one 3 (by kernel_rfl) rfl rfl (vo_callV rfl rfl rfl ?_)
    refine vc_mono (rnumber22_vc w0 _ r.height 8 h0 (by omega) (by decide) (by decide)) ?_
    rintro v L' ⟨a4, c4, rfl, rfl⟩
    rw [show ownB a4 c4 (digs r.height.toNat 8) = own 5 1 a4 8 c4 (bvs (digs r.height.toNat 8)) by unfold ownB; rw [d8]]
    generalize digs r.height.toNat 8 = X at *
    refine ⟨.inr (sei _ _ _), ?_⟩
    ((refine va_one 4 (by kernel_rfl) rfl rfl ?_; (refine goV ?_; intros); refine ⟨.inr entD, ?_⟩) <;> (refine va_one 7 (by kernel_rfl) rfl rfl ?_; (refine goV ?_; intros); refine ⟨.inl (by kernel_rfl), ?_⟩) <;> (refine tP 8 ?_) <;> (refine va_done (by kernel_rfl) ?_))
    rename_i a5 c5 _ _
    have hT : (H0 ++ X ++ r.dig).length = H0.length + 8 + 32 := by rw [List.length_append, List.length_append, d8, hdl32]
    rw [show own 5 1 a5 (H0.length + 8 + 32) c5 (bvs H0 ++ bvs X ++ bvs r.dig) = ownB a5 c5 (H0 ++ X ++ r.dig) by unfold ownB; rw [hT, bvs_append, bvs_append], ← hT]
    rw [show H0 ++ (X ++ (r.dig ++ prfB r.prf)) = (H0 ++ X ++ r.dig) ++ prfB r.prf by simp] at hof
    rw [hof]
    have hTl : (H0 ++ X ++ r.dig).length = 43 := by rw [hT, hH0l]
    have hBl : (prfB r.prf).length ≤ 20000 := by
      rw [prfB_A, List.length_append, List.length_append, digs_length, Dg.len h.prf.dg]
      have := prfA_len h.prf hvl
      omega
    generalize H0 ++ X ++ r.dig = T at *
    repeat' (first | (refine go1 ?_; intros) | (refine goCC ?_ ?_ <;> (intro hb; (try simp only [hSQ] at hb); try (exfalso; omega))) | fail)
    refine clV ?_
    refine vc_mono (rofProof_vc w0 _ r.prf h.prf hvl (by omega)) ?_
    rintro v L' ⟨a6, c6, rfl, rfl⟩
    generalize prfB r.prf = Y at *
    repeat' (first | (refine go1 ?_; intros) | (refine goCC ?_ ?_ <;> (intro hb; (try simp only [hSQ] at hb); try (exfalso; omega))) | fail)
    rename_i a7 c7 _ _
    rw [← own_app a7 c7 T Y Y.length rfl]
    exact ⟨_, sei w0 _ (ownB a7 c7 (T ++ Y) :: L), a7, c7, by rw [List.length_append], rfl⟩
  rw [if_neg k4] at hof
  by_cases k5 : r.kind.toNat = 5
  · rw [if_pos k5] at hof
    repeat' (first | (refine go1 ?_; intros) | (refine goCC ?_ ?_ <;> (intro hb; (try simp only [hSQ] at hb); try (exfalso; omega))) | fail)
    all_goals first | (exfalso; omega) | skip
    (refine v_drawX [7] 0 (by kernel_rfl) ?_ <;> (refine tA 0 ?_) <;> (refine tA 1 ?_) <;> (refine tA 2 ?_) <;> (refine tA 5 ?_) <;> (refine tA 6 ?_))
    first | refine va_one 3 (by kernel_rfl) rfl rfl (vo_call rfl rfl ?_) | refine va_one 3 (by kernel_rfl) rfl rfl (vo_callV rfl rfl rfl ?_)
    refine vc_mono (rnumber22_vc w0 _ r.height 8 h0 (by omega) (by decide) (by decide)) ?_
    rintro v L' ⟨a4, c4, rfl, rfl⟩
    rw [show ownB a4 c4 (digs r.height.toNat 8) = own 5 1 a4 8 c4 (bvs (digs r.height.toNat 8)) by unfold ownB; rw [d8]]
    generalize digs r.height.toNat 8 = X at *
    refine ⟨.inr (sei _ _ _), ?_⟩
    ((refine va_one 4 (by kernel_rfl) rfl rfl ?_; (refine goV ?_; intros); refine ⟨.inr entD, ?_⟩) <;> (refine va_one 7 (by kernel_rfl) rfl rfl ?_; (refine goV ?_; intros); refine ⟨.inl (by kernel_rfl), ?_⟩) <;> (refine tP 8 ?_) <;> (refine va_done (by kernel_rfl) ?_))
    rename_i a5 c5 _ _
    have hT : (H0 ++ (X ++ r.dig)).length = H0.length + 8 + 32 := by simp only [List.length_append]; omega
    rw [show own 5 1 a5 (H0.length + 8 + 32) c5 (bvs H0 ++ bvs X ++ bvs r.dig) = ownB a5 c5 (H0 ++ (X ++ r.dig)) by unfold ownB; rw [hT, bvs_append, bvs_append, List.append_assoc], ← hT]
    rw [hof]
    generalize H0 ++ (X ++ r.dig) = T at *
    repeat' (first | (refine go1 ?_; intros) | (refine goCC ?_ ?_ <;> (intro hb; (try simp only [hSQ] at hb); try (exfalso; omega))) | fail)
    exact ⟨_, sei w0 _ (ownB a5 c5 T :: L), a5, c5, rfl, rfl⟩
  rw [if_neg k5] at hof
  by_cases k6 : r.kind.toNat = 6
  · rw [if_pos k6] at hof
    have d4 := digs_length r.sub.toNat 4
    repeat' (first | (refine go1 ?_; intros) | (refine goCC ?_ ?_ <;> (intro hb; (try simp only [hSQ] at hb); try (exfalso; omega))) | fail)
    all_goals first | (exfalso; omega) | skip
    refine clV ?_
    refine vc_mono (rnumber22_vc w0 _ r.sub 4 s0 (by omega) (by decide) (by decide)) ?_
    rintro v L' ⟨a4, c4, rfl, rfl⟩
    rw [show ownB a4 c4 (digs r.sub.toNat 4) = own 5 1 a4 4 c4 (bvs (digs r.sub.toNat 4)) by unfold ownB; rw [d4]]
    generalize digs r.sub.toNat 4 = X at *
    rw [hof]
    repeat' (first | (refine go1 ?_; intros) | (refine goCC ?_ ?_ <;> (intro hb; (try simp only [hSQ] at hb); try (exfalso; omega))) | fail)
    rename_i a5 c5 _ _
    rw [← own_app a5 c5 H0 X 4 d4]
    exact ⟨_, sei w0 _ (ownB a5 c5 (H0 ++ X) :: L), a5, c5, by rw [List.length_append, d4], rfl⟩
  rw [if_neg k6] at hof
  by_cases k7 : r.kind.toNat = 7
  · rw [if_pos k7] at hof
    have d4 := digs_length r.ev.num.toNat 8
    have hbl := hBytes_len h.hd
    have hev := hm.hd
    obtain ⟨es, hes⟩ : ∃ es, es = r.ev.cells := ⟨_, rfl⟩
    rw [← hes] at hel hoe e0 e1 e2 fe
    repeat' (first | (refine go1 ?_; intros) | (refine goCC ?_ ?_ <;> (intro hb; (try simp only [hSQ] at hb); try (exfalso; omega))) | fail)
    all_goals first | (exfalso; omega) | skip
    rename_i g4
    (refine v_drawX [9, 10] 1 (by kernel_rfl) ?_ <;> (refine tA 0 ?_) <;> (refine tA 1 ?_) <;> (refine tA 2 ?_) <;> (refine tA 3 ?_) <;> (refine tA 7 ?_) <;> (refine tA 8 ?_))
    first | refine va_one 4 (by kernel_rfl) rfl rfl (vo_call rfl rfl ?_) | refine va_one 4 (by kernel_rfl) rfl rfl (vo_callV rfl rfl rfl ?_)
    refine vc_mono (rflag22_vc w0 _ r.gap) ?_
    rintro v L' ⟨rfl, rfl⟩
    refine ⟨.inr (sei _ _ _), ?_⟩
    ((refine va_one 5 (by kernel_rfl) rfl rfl ?_; (refine goV ?_; intros); refine ⟨.inr entD, ?_⟩) <;> (refine va_one 6 (by kernel_rfl) rfl rfl ?_; (refine goV ?_; intros); refine ⟨.inr entD, ?_⟩))
    first | refine va_one 9 (by kernel_rfl) rfl rfl (vo_call rfl rfl ?_) | refine va_one 9 (by kernel_rfl) rfl rfl (vo_callV rfl rfl rfl ?_)
    refine vc_mono (rnumber22_vc w0 _ r.ev.num 8 n0 (by omega) (by decide) (by decide)) ?_
    rintro v L' ⟨a4, c4, rfl, rfl⟩
    rw [show ownB a4 c4 (digs r.ev.num.toNat 8) = own 5 1 a4 8 c4 (bvs (digs r.ev.num.toNat 8)) by unfold ownB; rw [d4]]
    generalize digs r.ev.num.toNat 8 = X at *
    refine ⟨.inr (sei _ _ _), ?_⟩
    ((refine va_one 10 (by kernel_rfl) rfl rfl ?_; (refine goV ?_; intros); refine ⟨.inl (by kernel_rfl), ?_⟩) <;> (refine tP 11 ?_) <;> (refine va_done (by kernel_rfl) ?_))
    rename_i a5 c5 _ _
    have hT : (H0 ++ [fl r.gap] ++ X).length = H0.length + 1 + 8 := by rw [List.length_append, List.length_append, d4]; rfl
    rw [show own 5 1 a5 (H0.length + 1 + 8) c5 (bvs H0 ++ [.int .u8 ((fl r.gap).toNat : Int)] ++ bvs X) = ownB a5 c5 (H0 ++ [fl r.gap] ++ X) by unfold ownB; (rw [hT, bvs_append, bvs_append]); rfl, ← hT]
    rw [show H0 ++ (fl r.gap :: (X ++ (fl r.ev.roll :: hBytes r.ev.hd))) = (H0 ++ [fl r.gap] ++ X) ++ [fl r.ev.roll] ++ hBytes r.ev.hd by simp] at hof
    rw [hof]
    have hTl : (H0 ++ [fl r.gap] ++ X).length = 12 := by rw [hT, hH0l]
    generalize H0 ++ [fl r.gap] ++ X = T at *
    repeat' (first | (refine go1 ?_; intros) | (refine goCC ?_ ?_ <;> (intro hb; (try simp only [hSQ] at hb); try (exfalso; omega))) | fail)
    (refine v_drawX [8, 9] 3 (by kernel_rfl) ?_ <;> (refine tA 0 ?_) <;> (refine tA 1 ?_) <;> (refine tA 2 ?_) <;> (refine tA 6 ?_) <;> (refine tA 7 ?_))
    first | refine va_one 3 (by kernel_rfl) rfl rfl (vo_call rfl rfl ?_) | refine va_one 3 (by kernel_rfl) rfl rfl (vo_callV rfl rfl rfl ?_)
    refine vc_mono (rflag22_vc w0 _ r.ev.roll) ?_
    rintro v L' ⟨rfl, rfl⟩
    refine ⟨.inr (sei _ _ _), ?_⟩
    ((refine va_one 4 (by kernel_rfl) rfl rfl ?_; (refine goV ?_; intros); refine ⟨.inr entD, ?_⟩) <;> (refine va_one 5 (by kernel_rfl) rfl rfl ?_; (refine goV ?_; intros); refine ⟨.inr entD, ?_⟩))
    first | refine va_one 8 (by kernel_rfl) rfl rfl (vo_call rfl rfl ?_) | refine va_one 8 (by kernel_rfl) rfl rfl (vo_callV rfl rfl rfl ?_)
    refine vc_mono (rhof_vc w0 _ r.ev.hd h.hd hev) ?_
    rintro v L' ⟨a6, c6, rfl, rfl⟩
    generalize hBytes r.ev.hd = Y at *
    refine ⟨.inl (by kernel_rfl), ?_⟩
    ((refine va_one 9 (by kernel_rfl) rfl rfl ?_; (refine goV ?_; intros); refine ⟨.inl (by kernel_rfl), ?_⟩) <;> (refine tP 10 ?_) <;> (refine va_done (by kernel_rfl) ?_))
    rename_i a7 c7 _ _
    have hT2 : (T ++ [fl r.ev.roll] ++ Y).length = T.length + 1 + Y.length := by rw [List.length_append, List.length_append]; rfl
    rw [show own 5 1 a7 (T.length + 1 + Y.length) c7 (bvs T ++ [.int .u8 ((fl r.ev.roll).toNat : Int)] ++ bvs Y) = ownB a7 c7 (T ++ [fl r.ev.roll] ++ Y) by unfold ownB; rw [hT2, bvs_append, bvs_append]; rfl, ← hT2]
    generalize T ++ [fl r.ev.roll] ++ Y = U at *
    repeat' (first | (refine go1 ?_; intros) | (refine goCC ?_ ?_ <;> (intro hb; (try simp only [hSQ] at hb); try (exfalso; omega))) | fail)
    exact ⟨_, sei w0 _ (ownB a7 c7 U :: L), a7, c7, rfl, rfl⟩
  rw [if_neg k7, List.append_nil] at hof
  rw [hof]
  repeat' (first | (refine go1 ?_; intros) | (refine goCC ?_ ?_ <;> (intro hb; (try simp only [hSQ] at hb); try (exfalso; omega))) | fail)
  all_goals first | (exfalso; omega) | skip
  exact ⟨_, sei w0 _ (ownB a3 c3 H0 :: L), a3, c3, rfl, rfl⟩
theorem rreply22_vc (w0 : World) (L : List Asn) (r : Rp) (h : r.ok) (hvl : r.prf.vl.length ≤ 4096) (hpl : r.prf.pl.length ≤ 300) [hr : RdC w0 L r.prf.va (bvs r.prf.vl)] [hr2 : RdC w0 L r.prf.pa (bvs r.prf.pl.flatten)] :
    VC Try.prog w0 7 [.agg r.cells.toArray] L fun v L' => ∃ a' c', v = .tuple #[.slice a' (replyB r).length c', .int .i64 (if MayR r then 0 else 8)] ∧ L' = ownB a' c' (replyB r) :: L := by
  have hcl := Rp.len h
  haveI hoc : OC r.cells := oc_rp r
  refine vc_ent ?_
  refine vc_in rfl rfl ?_
  obtain ⟨cs, hcs⟩ : ∃ cs, cs = r.cells := ⟨_, rfl⟩
  rw [← hcs] at hcl hoc ⊢
  repeat' (first | (refine go1 ?_; intros) | (refine goCC ?_ ?_ <;> (intro hb; (try simp only [hSQ] at hb); try (exfalso; omega))) | fail)
  refine clV ?_
  rw [hcs]
  refine vc_mono (rmayReply_vc w0 _ r h) ?_
  rintro v L' ⟨rfl, rfl⟩
  rw [← hcs]
  by_cases hm : MayR r
  · rw [decide_eq_true hm, if_pos hm, show replyB r = ofR r from if_pos hm]
    repeat' (first | (refine go1 ?_; intros) | (refine goCC ?_ ?_ <;> (intro hb; (try simp only [hSQ] at hb); try (exfalso; omega))) | fail)
    refine clV ?_
    rw [hcs]
    refine vc_mono (rofReply_vc w0 _ r h hm hvl hpl) ?_
    rintro v L' ⟨a, c, rfl, rfl⟩
    rw [← hcs]
    repeat' (first | (refine go1 ?_; intros) | (refine goCC ?_ ?_ <;> (intro hb; (try simp only [hSQ] at hb); try (exfalso; omega))) | fail)
    exact ⟨_, sei w0 _ (ownB a c (ofR r) :: L), a, c, rfl, rfl⟩
  · rw [decide_eq_false hm, if_neg hm, show replyB r = [] from if_neg hm]
    repeat' (first | (refine go1 ?_; intros) | (refine goCC ?_ ?_ <;> (intro hb; (try simp only [hSQ] at hb); try (exfalso; omega))) | fail)
    exact ⟨_, (sei w0 _ L).trans ((se_own_nil 5 1 L).ent w0), none, 0, rfl, rfl⟩
end Go.Proofs.Ytgffejpcldeklaa
namespace Go.Proofs.Ytgffejpcldeklaa
open Go Go.RowKit
open Classical

/-- The proof at a place, with a value and sides of its own. -/
def RPfD (b : List UInt8) (i : Nat) (L : List Asn) (v : Value) (L' : List Asn) : Prop := ∃ q : Prf, q.ok ∧ q.at0 = pfD b i ∧ v = .agg q.cells.toArray ∧ L' = own 24 32 q.pa q.pl.length q.pc (bvs q.pl.flatten) :: ownB q.va q.vc q.vl :: L
theorem se_own2 (L : List Asn) : SE L (own 24 32 none 0 0 [] :: ownB none 0 [] :: L) := (se_own_nil 5 1 L).trans (se_own_nil 24 32 _)
abbrev prfE0 (K : List UInt8) (k : Nat) (O : List UInt8) : Prf := ⟨K, k, O, none, 0, [], none, 0, []⟩
theorem rreadProof_vc (w0 : World) (L : List Asn) (a : Option Addr) (c : Nat) (b : List UInt8) (i : Nat) {n : Nat} (hn : n = b.length) (hc : b.length ≤ c) (hl : b.length ≤ 10000) (hi : i ≤ 100) [hr : RdC w0 L a (bvs b)] :
    VC Try.prog w0 28 [.slice a n c, .int .i64 i] L (RPfD b i L) := by
  subst hn
  have d1 := dig22_len b i
  have d2 := dig22_len b (i + 33)
  obtain ⟨D1, hD1⟩ : ∃ D1, D1 = dig22 b i := ⟨_, rfl⟩
  refine vc_ent ?_
  refine vc_in rfl rfl ?_
  repeat' (first | (refine go1 ?_; intros) | (refine goCC ?_ ?_ <;> (intro hb; (try simp only [hSQ] at hb); try (exfalso; omega))) | fail)
  rename_i g4
  refine clV ?_
  refine vc_mono (rdigest22_vc w0 _ a c b i rfl (by omega) (by omega)) ?_
  rintro v L' ⟨rfl, rfl⟩
  have hpf : pfD b i = if b.length ≤ i + 32 then prf0.wKey D1
    else if (b.getD (i + 32) 0).toNat = 2 then pfVal b (i + 65) (((prf0.wKey D1).wKind (b.getD (i + 32) 0).toNat).wOther (dig22 b (i + 33)))
    else pfVal b (i + 33) ((prf0.wKey D1).wKind (b.getD (i + 32) 0).toNat) := by rw [hD1]; rfl
  rw [← hD1] at d1 ⊢
  have o1 := Prf.okKey prf0_ok d1
  have hs0 := Prf.sKey prf0_ok d1
  repeat' (first | (refine goB ?_; intros) | (refine goCC ?_ ?_ <;> (intro hb; (try simp only [hSQ] at hb); try (exfalso; omega))) | fail)
  refine vl_q rfl rfl rfl rfl (vq_buildP (cs := (prf0.wKey D1).cells) rfl (by simp [okS, Value.cells, d1]) (by rw [← hs0]; rfl)) ?_
  have l1 := Prf.len o1
  haveI oc1 : OC (prf0.wKey D1).cells := oc_prf _
  have e1 := fun k => Prf.sKind o1 k
  by_cases hb1 : b.length ≤ i + 32
  · rw [if_pos hb1] at hpf
    generalize hcs1 : (prf0.wKey D1).cells = cs1 at *
    repeat' (first | (refine go1 ?_; intros) | (refine goCC ?_ ?_ <;> (intro hb; (try simp only [hSQ] at hb); try (exfalso; omega))) | fail)
    all_goals first | (exfalso; omega) | skip
    exact ⟨_, (sei w0 _ L).trans ((se_own2 L).ent w0), prf0.wKey D1, o1, hpf.symm, by rw [hcs1], rfl⟩
  rw [if_neg hb1] at hpf
  have hg := bvs_at b (i + 32) (by omega)
  have hbp : 0 < (bvs b).length := by rw [bvs_length]; omega
  have hgd : b.getD (i + 32) 0 = b[i + 32]'(by omega) := by simp [List.getD, List.getElem?_eq_getElem (show i + 32 < b.length by omega)]
  rw [hgd] at hpf
  generalize b[i + 32]'(by omega) = k at *
  have hk := k.toNat_lt
  have o2 : ((prf0.wKey D1).wKind k.toNat).ok := Prf.okKind o1 hk
  have l2 := Prf.len o2
  haveI oc2 : OC ((prf0.wKey D1).wKind k.toNat).cells := oc_prf _
  have hs1 : splice (prf0.wKey D1).cells (0 + 32) [.int .u8 (k.toNat : Int)] = ((prf0.wKey D1).wKind k.toNat).cells := e1 k.toNat
  have f1 : ((prf0.wKey D1).wKind k.toNat).cells[0 + 32]? = some (.int .u8 (k.toNat : Int)) := Prf.f1 o2
  have hs2 := Prf.sOther o2 d2
  have o3 := Prf.okOther o2 d2
  generalize hcs1 : (prf0.wKey D1).cells = cs1 at *
  repeat' (first | (refine go1 ?_; intros) | (refine goCC ?_ ?_ <;> (intro hb; (try simp only [hSQ] at hb); try (exfalso; omega))) | fail)
  all_goals first | (exfalso; omega) | skip
  rename_i g5
  rw [hs1]
  clear hs0 e1 hs1
  repeat' (first | (refine vl_id ?_; first | refine vl_nil ?_ | refine vl_qA rfl rfl rfl rfl ?_ | (refine vl_o rfl ?_; (refine goV ?_; intros)) | refine vl_guard rfl rfl rfl rfl rfl ?_ | refine vl_pass rfl rfl rfl rfl rfl rfl rfl ?_) | refine thn_n ?_ | fail)
  refine v_cut {z : List UInt8 × Nat × List UInt8 × Nat // (prfE0 z.1 z.2.1 z.2.2.1).ok ∧ z.2.2.2 ≤ 200 ∧ pfD b i = pfVal b z.2.2.2 (prfE0 z.1 z.2.1 z.2.2.1)} [0, 4, 5] rfl (fun z => [(1, .int .i64 z.1.2.2.2)]) (fun z => blk g5 33 (prfE0 z.1.1 z.1.2.1 z.1.2.2.1).cells :: blk g4 33 prf0.cells :: L) ?_ ?_
  · by_cases k2 : k.toNat = 2
    · rw [if_pos k2] at hpf
      generalize hD2 : dig22 b (i + 33) = D2 at *
      have hs3 : splice ((prf0.wKey D1).wKind k.toNat).cells (0 + 33) (bvs D2) = (((prf0.wKey D1).wKind k.toNat).wOther D2).cells := hs2
      have hbl : (bvs D2).length = 32 := by rw [bvs_length]; exact d2
      generalize hcs2 : ((prf0.wKey D1).wKind k.toNat).cells = cs2 at *
      repeat' (first | (refine go1 ?_; intros) | (refine goCC ?_ ?_ <;> (intro hb; (try simp only [hSQ] at hb); try (exfalso; omega))) | fail)
      all_goals first | (exfalso; omega) | skip
      refine clV ?_
      refine vc_mono (rdigest22_vc w0 _ a c b (i + 33) rfl (by omega) (by omega)) ?_
      rintro v L' ⟨rfl, rfl⟩
      rw [hD2]
      repeat' (first | (refine go1 ?_; intros) | (refine goCC ?_ ?_ <;> (intro hb; (try simp only [hSQ] at hb); try (exfalso; omega))) | fail)
      refine vl_o rfl (vo_stB rfl rfl rfl hbl (by rw [l2, hbl]; decide) hs3 ?_)
      repeat' (first | (refine go1 ?_; intros) | (refine goCC ?_ ?_ <;> (intro hb; (try simp only [hSQ] at hb); try (exfalso; omega))) | fail)
      exact ⟨rfl, ⟨(D1, k.toNat, D2, i + 65), o3, by dsimp only; omega, hpf⟩, by (exact sbS), Ent.refl _ _⟩
    · rw [if_neg k2] at hpf
      repeat' (first | (refine go1 ?_; intros) | (refine goCC ?_ ?_ <;> (intro hb; (try simp only [hSQ] at hb); try (exfalso; omega))) | fail)
      all_goals first | (exfalso; omega) | skip
      exact ⟨rfl, ⟨(D1, k.toNat, List.replicate 32 0, i + 33), o2, by dsimp only; omega, hpf⟩, by (exact sbS), Ent.refl _ _⟩
  clear hpf
  rintro ⟨⟨K, kd, O, at'⟩, o4, hat, hpf⟩
  dsimp only at o4 hat hpf ⊢
  clear hg hbp hgd hk o2 l2 oc2 f1 hs2 o3 hcs1 l1 oc1 o1 d1 d2 hD1 hb1
  have l4 := Prf.len o4
  have f1 : (prfE0 K kd O).cells[0 + 32]? = some (.int .u8 (kd : Int)) := Prf.f1 o4
  haveI oc4 : OC (prfE0 K kd O).cells := oc_prf _
  have hkd : kd < 256 := o4.kind
  have hsm : ∀ j, small22 b j 2 < 65536 ∧ -1 ≤ small22 b j 2 ∧ (0 ≤ small22 b j 2 → j + 2 ≤ b.length) := fun j => by
    unfold small22
    split
    · omega
    split
    · omega
    · have : numOf ((b.drop j).take 2) < 65536 := (digs_numOf 2 ((b.drop j).take 2) (by simp; omega) (by decide)).2
      omega
  refine v_seq ?_
  refine v_seq ?_
  refine v_region ?_
  repeat' (first | (refine vl_id ?_; first | refine vl_nil ?_ | refine vl_qA rfl rfl rfl rfl ?_ | (refine vl_o rfl ?_; (refine goV ?_; intros)) | refine vl_guard rfl rfl rfl rfl rfl ?_ | refine vl_pass rfl rfl rfl rfl rfl rfl rfl ?_) | refine thn_n ?_ | fail)
  refine v_cutR {z : Prf × Nat // z.1.ok ∧ z.2 ≤ 80000 ∧ pfD b i = pfEnd b z.2 z.1.at0 ∧ z.1.pl = [] ∧ z.1.pa = none ∧ z.1.pc = 0} [0, 4, 5] rfl (fun z => [(1, .int .i64 z.1.2)]) (fun z => ownB z.1.1.va z.1.1.vc z.1.1.vl :: blk g5 33 z.1.1.cells :: blk g4 33 prf0.cells :: L) ?_ ?_
  · by_cases k0 : kd = 0
    · have hq : pfD b i = pfEnd b at' (prfE0 K kd O) := by
        rw [hpf]
        unfold pfVal
        exact if_pos k0
      repeat' (first | (refine go1 ?_; intros) | (refine goCC ?_ ?_ <;> (intro hb; (try simp only [hSQ] at hb); try (exfalso; omega))) | fail)
      all_goals first | (exfalso; omega) | skip
      exact ⟨rfl, ⟨(prfE0 K kd O, at'), o4, by dsimp only; omega, hq, rfl, rfl, rfl⟩, by (exact sbS), (se_own_nil 5 1 _).ent w0⟩
    have hq : pfD b i = if small22 b at' 2 < 0 ∨ b.length < at' + 2 + (small22 b at' 2).toNat then prfE0 K kd O else pfEnd b (at' + 2 + (small22 b at' 2).toNat) ((prfE0 K kd O).wVl ((b.drop (at' + 2)).take (small22 b at' 2).toNat)) := by
      rw [hpf]
      unfold pfVal
      exact if_neg k0
    have hn := hsm at'
    have hcell : ∀ c1, (prfE0 K kd O).cells = c1 → (prfE0 K kd O).cells = c1 := fun _ h => h
    generalize hcs4 : (prfE0 K kd O).cells = cs4 at *
    repeat' (first | (refine go1 ?_; intros) | (refine goCC ?_ ?_ <;> (intro hb; (try simp only [hSQ] at hb); try (exfalso; omega))) | fail)
    all_goals first | (exfalso; omega) | skip
    refine clV ?_
    refine vc_mono (rsmall22_vc w0 _ a c b at' 2 rfl (by omega) (by omega) (by omega) (by decide)) ?_
    rintro v L' ⟨rfl, rfl⟩
    obtain ⟨N, hN⟩ : ∃ N, N = small22 b at' 2 := ⟨_, rfl⟩
    rw [← hN] at hn hq ⊢
    by_cases hb : N < 0 ∨ b.length < at' + 2 + N.toNat
    · rw [if_pos hb] at hq
      have hfin : ∃ L'', Ent w0 (blk g5 33 cs4 :: blk g4 33 cs4 :: L) L'' ∧ RPfD b i L (.agg cs4.toArray) L'' := ⟨_, (sei w0 _ L).trans ((se_own2 L).ent w0), prfE0 K kd O, o4, hq.symm, by rw [hcs4], rfl⟩
      by_cases hb2 : N < 0
      · repeat' (first | (refine go1 ?_; intros) | (refine goCC ?_ ?_ <;> (intro hb; (try simp only [hSQ] at hb); try (exfalso; omega))) | fail)
        all_goals first | (exfalso; omega) | skip
        exact hfin
      · repeat' (first | (refine go1 ?_; intros) | (refine goCC ?_ ?_ <;> (intro hb; (try simp only [hSQ] at hb); try (exfalso; omega))) | fail)
        all_goals first | (exfalso; omega) | skip
        exact hfin
    · rw [if_neg hb] at hq
      obtain ⟨M, rfl⟩ : ∃ M : Nat, N = M := ⟨N.toNat, by omega⟩
      rw [Int.toNat_natCast] at hq hb
      have hM1 : at' + 2 + M ≤ b.length := by omega
      have hM2 : M < 65536 := by omega
      clear hn hb hN
      have hvl : ((b.take (at' + 2 + M)).drop (at' + 2)) = (b.drop (at' + 2)).take M := by rw [List.drop_take, Nat.add_sub_cancel_left]
      haveI r1 : ∀ (L : List Asn) [RdC w0 L a (bvs b)], RdC w0 L (subA a (at' + 2) c 1) (bvs ((b.drop (at' + 2)).take M)) := fun L _ => by
        rw [← hvl]
        exact rd_cut (at' + 2) (at' + 2 + M) c (by omega)
      have hVl : ((b.drop (at' + 2)).take M).length = M := by simp; omega
      generalize (b.drop (at' + 2)).take M = V at *
      have hs4 := fun a1 c1 => Prf.sVal o4 a1 V c1
      have o5 := fun a1 c1 => Prf.okVal o4 (v := V) (a := a1) (c := c1) (b := none) (d := 0) (by omega)
      have hs5 : ∀ a1 c1, splice cs4 (0 + 65) [.slice a1 M c1] = (((prfE0 K kd O).wVl V).pv a1 c1 none 0).cells := fun a1 c1 => by
        rw [← hcs4, ← hVl]
        exact hs4 a1 c1
      repeat' (first | (refine go1 ?_; intros) | (refine goCC ?_ ?_ <;> (intro hb; (try simp only [hSQ] at hb); try (exfalso; omega))) | fail)
      all_goals first | (exfalso; omega) | skip
      refine clV ?_
      refine vc_mono (twin_vc w0 _ _ _ V (by omega) (by omega)) ?_
      rintro v L' ⟨a1, c1, hc1, rfl, rfl⟩
      rw [hVl]
      repeat' (first | (refine go1 ?_; intros) | (refine goCC ?_ ?_ <;> (intro hb; (try simp only [hSQ] at hb); try (exfalso; omega))) | fail)
      rw [hs5]
      exact ⟨rfl, ⟨(((prfE0 K kd O).wVl V).pv a1 c1 none 0, at' + 2 + M), o5 a1 c1, by dsimp only; omega, hq, rfl, rfl, rfl⟩, by (exact sbS), Ent.refl _ _⟩
  rintro ⟨⟨p5, at5⟩, o5, hat5, hpf5, hpl0, hpa0, hpc0⟩
  dsimp only at o5 hat5 hpf5 hpl0 hpa0 hpc0 ⊢
  clear hpf o4 l4 f1 oc4 hkd hat
  have hn := hsm at5
  have hE : ∀ l, ((p5.at0).wPl l) = (p5.wPl l).at0 := fun l => rfl
  unfold pfEnd at hpf5
  repeat' (first | (refine go1 ?_; intros) | (refine goCC ?_ ?_ <;> (intro hb; (try simp only [hSQ] at hb); try (exfalso; omega))) | fail)
  refine clV ?_
  refine vc_mono (rsmall22_vc w0 _ a c b at5 2 rfl (by omega) (by omega) (by omega) (by decide)) ?_
  rintro v L' ⟨rfl, rfl⟩
  obtain ⟨N, hN⟩ : ∃ N, N = small22 b at5 2 := ⟨_, rfl⟩
  rw [← hN] at hn hpf5 ⊢
  obtain ⟨m, hm⟩ : ∃ m, m = N.toNat := ⟨_, rfl⟩
  rw [← hm] at hpf5
  have hm0 : m = 0 ∨ at5 + 2 ≤ b.length := by omega
  have hNm : ∀ k : Nat, (k : Int) < N ↔ k < m := fun k => by omega
  have hm16 : m < 65536 := by omega
  clear hn hsm
  obtain ⟨J, hJ⟩ : ∃ J, J = at5 + 2 := ⟨_, rfl⟩
  rw [← hJ] at hm0 hpf5
  have hq0 : ∀ pa pc, (p5.wPl []).pv p5.va p5.vc pa pc = Prf.mk p5.key p5.kind p5.other p5.va p5.vc p5.vl pa pc [] := fun _ _ => rfl
  have hp5 : p5 = (p5.wPl []).pv p5.va p5.vc none 0 := by
    rw [hq0, ← hpl0, ← hpa0, ← hpc0]
  have hN31 : N < 65536 ∧ -1 ≤ N := by
    rw [hN]
    unfold small22
    split
    · omega
    split
    · omega
    · have : numOf ((b.drop at5).take 2) < 65536 := (digs_numOf 2 ((b.drop at5).take 2) (by simp; omega) (by decide)).2
      omega
  clear hN
  repeat' (first | (refine go1 ?_; intros) | (refine goCC ?_ ?_ <;> (intro hb; (try simp only [hSQ] at hb); try (exfalso; omega))) | fail)
  refine v_loopF (Nat × Option Addr × Nat) [0, 4, 5, 7] rfl (fun x => [(1, .int .i64 ((J + x.1 * 32 : Nat) : Int)), (8, .int .i64 x.1)]) (fun _ x => own 24 32 x.2.1 x.1 x.2.2 (bvs (sidL b x.1 J).flatten) :: blk g5 33 ((p5.wPl (sidL b x.1 J)).pv p5.va p5.vc x.2.1 x.2.2).cells :: ownB p5.va p5.vc p5.vl :: blk g4 33 prf0.cells :: L) (fun x => x.1 ≤ m ∧ (m = 0 ∨ J + x.1 * 32 ≤ b.length)) (fun x => m - x.1) (0, none, 0) ⟨Nat.zero_le _, by dsimp only; omega⟩ ?_ ?_ ?_
  · rw [hJ]
    (exact sbS)
  · dsimp only
    rw [show sidL b 0 J = [] from rfl, ← hp5]
    exact (sei w0 _ (blk g5 33 p5.cells :: ownB p5.va p5.vc p5.vl :: blk g4 33 prf0.cells :: L)).trans ((se_own_nil 24 32 _).ent w0)
  rintro ⟨k, pa, pc⟩ ⟨hk, hkb⟩
  dsimp only at hk hkb ⊢
  have hsl : (sidL b k J).length = k := by
    rcases hkb with h0 | h0
    · obtain rfl : k = 0 := by omega
      rfl
    · exact sidL_full b k J h0
  have hsg := (sidL_le b k J).2
  have o6 : ((p5.wPl (sidL b k J)).pv p5.va p5.vc pa pc).ok := Prf.okPl o5 hsg (by omega)
  have l6 := Prf.len o6
  have f4 : ((p5.wPl (sidL b k J)).pv p5.va p5.vc pa pc).cells[0 + 66]? = some (.slice pa k pc) := by
    have := Prf.f4 o6
    rw [this]
    show some (Value.slice pa (sidL b k J).length pc) = _
    rw [hsl]
  haveI oc6 : OC ((p5.wPl (sidL b k J)).pv p5.va p5.vc pa pc).cells := oc_prf _
  by_cases hgo : k < m ∧ J + k * 32 + 32 ≤ b.length
  · obtain ⟨hg1, hg2⟩ := hgo
    have hst : sidL b (k + 1) J = sidL b k J ++ [dig22 b (J + k * 32)] := sidL_step (by omega)
    have hD := dig22_len b (J + k * 32)
    have hss : ∀ a9 c9, splice ((p5.wPl (sidL b k J)).pv p5.va p5.vc pa pc).cells (0 + 66) [.slice a9 (k + 1) c9] = ((p5.wPl (sidL b (k + 1) J)).pv p5.va p5.vc a9 c9).cells := fun a9 c9 => by
      have := Prf.sSides o6 a9 (sidL b (k + 1) J) c9
      rw [show (sidL b (k + 1) J).length = k + 1 by rw [hst, List.length_append, hsl]; rfl] at this
      exact this
    have hfl : (sidL b k J).flatten.length = k * 32 := by rw [hsg.len, hsl]
    have hNk := (hNm k).2 hg1
    have eo : ∀ a9 c9, own 24 32 a9 (k + 1) c9 (bvs (sidL b k J).flatten ++ (bvs (dig22 b (J + k * 32)) ++ [])) = own 24 32 a9 (k + 1) c9 (bvs (sidL b (k + 1) J).flatten) := fun a9 c9 => by
      rw [hst, List.flatten_append]
      simp [bvs]
    generalize hcs6 : ((p5.wPl (sidL b k J)).pv p5.va p5.vc pa pc).cells = cs6 at *
    generalize hDD : dig22 b (J + k * 32) = D at *
    repeat' (first | (refine go1 ?_; intros) | (refine goCC ?_ ?_ <;> (intro hb; (try simp only [hSQ] at hb); try (exfalso; omega))) | fail)
    all_goals first | (exfalso; omega) | skip
    (refine v_drawX [6, 8] 0 (by kernel_rfl) ?_ <;> (refine tA 0 ?_) <;> (refine tA 1 ?_) <;> (refine tA 2 ?_) <;> (refine tA 3 ?_))
    first | refine va_one 4 (by kernel_rfl) rfl rfl (vo_call rfl rfl ?_) | refine va_one 4 (by kernel_rfl) rfl rfl (vo_callV rfl rfl rfl ?_)
    refine vc_mono (rdigest22_vc w0 _ a c b (J + k * 32) rfl (by omega) (by omega)) ?_
    rintro v L' ⟨rfl, rfl⟩
    rw [hDD]
    refine ⟨.inr (sei _ _ _), ?_⟩
    ((refine va_one 5 (by kernel_rfl) rfl rfl ?_; (refine goV ?_; intros); refine ⟨.inr entD, ?_⟩) <;> (refine va_one 6 (by kernel_rfl) rfl rfl ?_; (refine goV ?_; intros); refine ⟨.inl (by kernel_rfl), ?_⟩) <;> (refine tP 7 ?_) <;> (refine va_one 8 (by kernel_rfl) rfl rfl ?_; (refine goV ?_; intros); refine ⟨.inl (by kernel_rfl), ?_⟩) <;> (refine va_done (by kernel_rfl) ?_))
    rename_i a9 c9 _ _
    rw [eo, hss]
    repeat' (first | (refine go1 ?_; intros) | (refine goCC ?_ ?_ <;> (intro hb; (try simp only [hSQ] at hb); try (exfalso; omega))) | fail)
    exact ⟨rfl, (k + 1, a9, c9), ⟨by dsimp only; omega, .inr (by dsimp only; omega)⟩, by dsimp only; omega, by rw [show J + (k + 1) * 32 = J + k * 32 + 32 by omega]; (exact sbS), sei _ _ _⟩
  · have hfin : sidL b m J = sidL b k J := by
      rcases hkb with h0 | h0
      · obtain rfl : k = 0 := by omega
        rw [h0]
      · exact sidL_stop hk h0 hgo
    have hend : ∃ L'', Ent w0 (blk g5 33 ((p5.wPl (sidL b k J)).pv p5.va p5.vc pa pc).cells :: own 24 32 pa k pc (bvs (sidL b k J).flatten) :: ownB p5.va p5.vc p5.vl :: L) L'' ∧ RPfD b i L (.agg ((p5.wPl (sidL b k J)).pv p5.va p5.vc pa pc).cells.toArray) L'' := by
      refine ⟨own 24 32 pa k pc (bvs (sidL b k J).flatten) :: ownB p5.va p5.vc p5.vl :: L, sei _ _ _, _, o6, ?_, rfl, ?_⟩
      · rw [hpf5, hfin]
        rfl
      · show _ = own _ _ pa (sidL b k J).length pc _ :: _
        rw [hsl]
        rfl
    by_cases hkm : k < m
    · have hNk := (hNm k).2 hkm
      repeat' (first | (refine go1 ?_; intros) | (refine goCC ?_ ?_ <;> (intro hb; (try simp only [hSQ] at hb); try (exfalso; omega))) | fail)
      all_goals first | (exfalso; omega) | skip
      obtain ⟨L2, hE2, hR2⟩ := hend
      exact ⟨L2, (sei _ _ _).trans hE2, hR2⟩
    · have hNk : ¬ (k : Int) < N := fun h => hkm ((hNm k).1 h)
      repeat' (first | (refine go1 ?_; intros) | (refine goCC ?_ ?_ <;> (intro hb; (try simp only [hSQ] at hb); try (exfalso; omega))) | fail)
      all_goals first | (exfalso; omega) | skip
      obtain ⟨L2, hE2, hR2⟩ := hend
      exact ⟨L2, (sei _ _ _).trans hE2, hR2⟩
end Go.Proofs.Ytgffejpcldeklaa
namespace Go.Proofs.Ytgffejpcldeklaa
open Go Go.RowKit
open Classical

theorem u8_one (x : UInt8) : ((x.toNat : Nat) : Int) = 1 ↔ x = 1 := by
  constructor
  · intro h
    refine UInt8.toNat_inj.1 ?_
    have h1 : x.toNat = 1 := by omega
    rw [h1]
    rfl
  · intro h
    rw [h]
    rfl
theorem mayR_prf {r : Rp} (h : r.ok) (hm : MayR r) : r.prf.vl.length ≤ 4096 ∧ r.prf.pl.length ≤ 256 := by
  have key : r.prf.at0 = prf0 → r.prf.vl.length ≤ 4096 ∧ r.prf.pl.length ≤ 256 := fun e => by
    have e1 : r.prf.vl = [] := congrArg Prf.vl e
    have e2 : r.prf.pl = [] := congrArg Prf.pl e
    rw [e1, e2]
    exact ⟨by decide, by decide⟩
  have hb := congrArg Rp.prf hm.bare
  unfold bareR at hb
  by_cases hc : r.code ≠ 0
  · rw [if_pos hc] at hb
    exact key hb
  rw [if_neg hc] at hb
  by_cases k4 : r.kind.toNat = 4
  · have := prfIs_may h.prf (hm.prf (by omega) k4)
    exact ⟨this.vl, this.pl⟩
  rw [if_neg k4] at hb
  refine key (hb.trans ?_)
  split
  · rfl
  split
  · rfl
  split
  · rfl
  split
  · rfl
  split
  · rfl
  · rfl
/-- What the document reads of bytes. -/
noncomputable def docR (B : List UInt8) : Rp × Int := if 3 ≤ B.length ∧ MayR (rdD B) ∧ ofR (rdD B) = B then (rdD B, 0) else (rp0, 220)
theorem ofR_len3 (r : Rp) : 3 ≤ (ofR r).length := by
  unfold ofR
  rw [List.length_cons, List.length_append, digs_length]
  omega
theorem ofD_at0 (r : Rp) : ofR r.at0 = ofR r := rfl
theorem rdD_at0 (B : List UInt8) : (rdD B).at0 = rdD B := by
  have hp : ∀ i, (pfD B i).at0 = pfD B i := fun i => by
    have e1 : ∀ j p, p.at0 = p → (pfEnd B j p).at0 = pfEnd B j p := fun j p h => by
      show (p.at0).wPl _ = p.wPl _
      rw [h]
      rfl
    have e2 : ∀ j p, p.at0 = p → (pfVal B j p).at0 = pfVal B j p := fun j p h => by
      unfold pfVal
      split
      · exact e1 _ _ h
      split
      · exact h
      · refine e1 _ _ ?_
        show (p.at0).wVl _ = p.wVl _
        rw [h]
        rfl
    unfold pfD
    split
    · rfl
    split
    · exact e2 _ _ rfl
    · exact e2 _ _ rfl
  unfold rdD
  split
  · rfl
  split
  · split
    · rfl
    · rfl
  split
  · rfl
  split
  · show Rp.mk _ _ _ _ _ _ _ (pfD B 43).at0 _ _ _ = _
    rw [hp]
  split
  · rfl
  split
  · rfl
  split
  · split
    · rfl
    · rfl
  · rfl
theorem docR_eq (F : RpF) {B : List UInt8} (h : (rdD B).ok) (hr : (readR F B).1.ok) : docR B = readR F B := by
  unfold docR
  by_cases hc : 3 ≤ B.length ∧ MayR (rdD B) ∧ ofR (rdD B) = B
  · rw [if_pos hc]
    have := readR_of F h hc.2.1
    rw [hc.2.2, rdD_at0] at this
    exact this.symm
  · rw [if_neg hc]
    rcases readR_cases F B with ⟨x, hx⟩ | hx
    · exfalso
      rw [hx] at hr
      obtain ⟨h1, h2, h3⟩ := readR_may F hx
      have h4 := rdD_of hr h1
      rw [h2, rdD_at0, h3] at h4
      rw [h4] at hc
      exact hc ⟨by rw [← h2]; exact ofR_len3 x, h1, h2⟩
    · exact hx.symm
/-- .. and the reply that is held. -/
def RRdD (w0 : World) (B : List UInt8) (L : List Asn) (v : Value) (L' : List Asn) : Prop := (3 ≤ B.length → (rdD B).ok) ∧ ∃ q av cv Z, HeldR w0 (docR B).1 q av cv Z ∧ v = .tuple #[.agg q.cells.toArray, .int .i64 (docR B).2] ∧ L' = sdO q :: ownB av cv Z :: L
/-- What the document has read, well or not. -/
def DqOk (B : List UInt8) (q : Rp) : Prop := q.ok ∧ q.at0 = rdD B
def DqL (q : Rp) (g g2 : Nat) (L : List Asn) : List Asn := sdO q :: ownB q.prf.va q.prf.vc q.prf.vl :: blk g 41 q.cells :: blk g2 41 rp0.cells :: L
theorem dqL_bare (w0 : World) {q : Rp} (hp : q.prf = prf0) (g g2 : Nat) (L : List Asn) : Ent w0 (blk g 41 q.cells :: blk g2 41 rp0.cells :: L) (DqL q g g2 L) := by
  unfold DqL sdO
  rw [hp]
  exact ((se_own_nil 5 1 _).trans (se_own_nil 24 32 _)).ent w0
theorem rread22_vc (w0 : World) (L : List Asn) (a : Option Addr) (c : Nat) (B : List UInt8) {n : Nat} (hn : n = B.length) (hc : B.length ≤ c) (hl : B.length ≤ 10000) [hr : RdC w0 L a (bvs B)] :
    VC Try.prog w0 9 [.slice a n c] L (RRdD w0 B L) := by
  subst hn
  refine vc_ent ?_
  refine vc_in rfl rfl ?_
  by_cases h3 : B.length < 3
  · have hd : docR B = (rp0, 220) := if_neg (by omega)
    unfold RRdD
    rw [hd]
    repeat' (first | (refine go1 ?_; intros) | (refine goCC ?_ ?_ <;> (intro hb; (try simp only [hSQ] at hb); try (exfalso; omega))) | fail)
    all_goals first | (exfalso; omega) | skip
    all_goals exact ⟨_, (sei w0 _ L).trans ((sdO_bare (r := rp0) rfl L).ent w0), fun h => absurd h (by omega), rp0, none, 0, [], HeldR.bare w0 rp0_ok rfl, rfl, rfl⟩
  have hg := bvs_at B 0 (by omega)
  have hbp : 0 < (bvs B).length := by rw [bvs_length]; omega
  have hgd : B.getD 0 0 = B[0]'(by omega) := by simp [List.getD, List.getElem?_eq_getElem (show 0 < B.length by omega)]
  obtain ⟨K, hK⟩ : ∃ K, K = B[0]'(by omega) := ⟨_, rfl⟩
  rw [← hK] at hg hgd
  have hKl := K.toNat_lt
  have hsm : ∀ j s, s ≤ 8 → I64 (small22 B j s) := fun j s _ => by
    unfold small22
    split
    · exact ⟨by decide, by decide⟩
    split
    · exact ⟨by decide, by decide⟩
    · exact ⟨by omega, by omega⟩
  obtain ⟨C, hC⟩ : ∃ C, C = small22 B 1 2 := ⟨_, rfl⟩
  have hCi : I64 C := by rw [hC]; exact hsm 1 2 (by decide)
  have ok0 : (rpK K C).ok := ⟨hCi, rp0_ok.height, rp0_ok.dig, Nat.zero_lt_of_lt (Nat.lt_succ_self 18446744073709551615), Nat.zero_lt_of_lt (Nat.lt_succ_self 18446744073709551615), rp0_ok.rc, rp0_ok.recc, rp0_ok.prf, rp0_ok.sub, rp0_ok.num, rp0_ok.hd, rp0_ok.hdh, rp0_ok.hdm⟩
  repeat' (first | (refine go1 ?_; intros) | (refine goCC ?_ ?_ <;> (intro hb; (try simp only [hSQ] at hb); try (exfalso; omega))) | fail)
  rename_i g2
  rw [rp0_cells]
  refine v_cut Nat [0, 2, 3] rfl (fun g => [(4, .pointer (some ⟨g, 0, none⟩))]) (fun g => blk g 41 (rpK K C).cells :: blk g2 41 rp0.cells :: L) ?_ ?_
  · refine v_id ?_
    refine v_draw0 [] (by kernel_rfl) ?_
    refine tA 0 ?_
    refine tA 1 ?_
    refine tA 2 ?_
    refine tA 3 ?_
    refine va_two 4 6 (by kernel_rfl) rfl rfl rfl rfl ?_ ?_
    · first | refine vo_call rfl rfl ?_ | refine vo_callV rfl rfl rfl ?_
      refine vc_mono (rsmall22_vc w0 _ a c B 1 2 rfl (by omega) (by omega) (by omega) (by decide)) ?_
      rintro v L' ⟨rfl, rfl⟩
      rw [← hC]
      refine ⟨.inr (sei _ _ _), ?_⟩
      refine va_take 5 rfl rfl rfl rfl (by kernel_rfl) (fun _ _ _ _ h => h) entD (vq_buildP (cs := (rpK K C).cells) rfl (by simp [okS, Value.cells]) rfl) ?_
      refine va_one 6 (by kernel_rfl) rfl rfl ?_
      (refine goV ?_; intros)
      refine ⟨.inr (sei _ _ _), ?_⟩
      refine va_one 7 (by kernel_rfl) rfl rfl ?_
      (refine goV ?_; intros)
      refine ⟨.inr (sei _ _ _), ?_⟩
      refine va_done (by kernel_rfl) ?_
      exact ⟨rfl, _, by (exact sbS), sei _ _ _⟩
    · (refine goV ?_; intros)
      refine ⟨.inr (sei _ _ _), ?_⟩
      refine va_one 4 (by kernel_rfl) rfl rfl ?_
      first | refine vo_call rfl rfl ?_ | refine vo_callV rfl rfl rfl ?_
      refine vc_mono (rsmall22_vc w0 _ a c B 1 2 rfl (by omega) (by omega) (by omega) (by decide)) ?_
      rintro v L' ⟨rfl, rfl⟩
      rw [← hC]
      refine ⟨.inr (sei _ _ _), ?_⟩
      refine va_take 5 rfl rfl rfl rfl (by kernel_rfl) (fun _ _ _ _ h => h) entD (vq_buildP (cs := (rpK K C).cells) rfl (by simp [okS, Value.cells]) rfl) ?_
      refine va_one 7 (by kernel_rfl) rfl rfl ?_
      (refine goV ?_; intros)
      refine ⟨.inr (sei _ _ _), ?_⟩
      refine va_done (by kernel_rfl) ?_
      exact ⟨rfl, _, by (exact sbS), sei _ _ _⟩
  intro g
  have l0 := Rp.len ok0
  haveI oc0 : OC (rpK K C).cells := oc_rp _
  have f0 : (rpK K C).cells[0 + 0]? = some (.int .u8 (K.toNat : Nat)) := Rp.f0 ok0
  have f1 : (rpK K C).cells[0 + 1]? = some (.int .i64 C) := Rp.f1 ok0
  refine v_seq ?_
  refine v_cut {q : Rp // DqOk B q} [0, 2, 3, 4] rfl (fun _ => []) (fun q => DqL q.1 g g2 L) ?_ ?_
  · have hrd : rdD B = if C ≠ 0 then rpK K C
      else if K.toNat = 2 then (if B.length = 19 then ⟨K, C, 0, d32, numOf ((B.drop 3).take 8), numOf (B.drop 11), recZero, prf0, 0, false, ev0⟩ else rpK K C)
      else if K.toNat = 3 then ⟨K, C, small22 B 3 8, d32, 0, 0, if B.length = 46 then (recRead (B.drop 11)).1 else recZero, prf0, 0, false, ev0⟩
      else if K.toNat = 4 then ⟨K, C, small22 B 3 8, dig22 B 11, 0, 0, recZero, pfD B 43, 0, false, ev0⟩
      else if K.toNat = 5 then ⟨K, C, small22 B 3 8, dig22 B 11, 0, 0, recZero, prf0, 0, false, ev0⟩
      else if K.toNat = 6 then ⟨K, C, 0, d32, 0, 0, recZero, prf0, small22 B 3 4, false, ev0⟩
      else if K.toNat = 7 then (if B.length = 121 then ⟨K, C, 0, d32, 0, 0, recZero, prf0, 0, decide (B.getD 3 0 = 1), ⟨small22 B 4 8, decide (B.getD 12 0 = 1), (hdRead (B.drop 13)).1⟩⟩ else rpK K C)
      else rpK K C := by
        rw [← hgd, hC]
        rfl
    have fin0 : rdD B = rpK K C → ∃ z : {q : Rp // DqOk B q}, Ent w0 (blk g 41 (rpK K C).cells :: blk g2 41 rp0.cells :: L) (DqL z.1 g g2 L) := fun e => ⟨⟨rpK K C, ok0, e.symm⟩, dqL_bare w0 rfl g g2 L⟩
    by_cases hC0 : C ≠ 0
    · rw [if_pos hC0] at hrd
      obtain ⟨z, hz⟩ := fin0 hrd
      generalize (rpK K C).cells = cs at *
      repeat' (first | (refine go1 ?_; intros) | (refine goCC ?_ ?_ <;> (intro hb; (try simp only [hSQ] at hb); try (exfalso; omega))) | fail)
      all_goals first | (exfalso; omega) | skip
      exact ⟨rfl, z, by (exact sbS), hz⟩
    rw [if_neg hC0] at hrd
    have hz0 : C = 0 := by omega
    by_cases k2 : K.toNat = 2
    · rw [if_pos k2] at hrd
      by_cases h19 : B.length = 19
      · rw [if_pos h19] at hrd
        haveI r1 : ∀ (M : List Asn) [RdC w0 M a (bvs B)], RdC w0 M (subA a 3 c 1) (bvs ((B.drop 3).take 8)) := fun M _ => by
          have := rd_cut (w0 := w0) (L := M) (a := a) (l := B) 3 11 c (by omega)
          rwa [show (B.take 11).drop 3 = (B.drop 3).take 8 by rw [List.drop_take]] at this
        haveI r2 : ∀ (M : List Asn) [RdC w0 M a (bvs B)], RdC w0 M (subA a 11 c 1) (bvs (B.drop 11)) := fun M _ => rd_drop 11 c hc
        have n1 := numOf_lt ((B.drop 3).take 8)
        have n2 := numOf_lt (B.drop 11)
        have hs := Rp.sA ok0 (numOf ((B.drop 3).take 8)) (numOf (B.drop 11))
        have okA := Rp.okA ok0 n1 n2
        have l1 : ((B.drop 3).take 8).length = 8 := by simp; omega
        have l2 : (B.drop 11).length = 8 := by simp; omega
        generalize hcs : (rpK K C).cells = cs at *
        repeat' (first | (refine go1 ?_; intros) | (refine goCC ?_ ?_ <;> (intro hb; (try simp only [hSQ] at hb); try (exfalso; omega))) | fail)
        all_goals first | (exfalso; omega) | skip
        (refine v_draw0 [5, 8] (by kernel_rfl) ?_ <;> (refine tA 0 ?_) <;> (refine tA 1 ?_) <;> (refine tA 3 ?_) <;> (refine tA 4 ?_))
        first | refine va_one 2 (by kernel_rfl) rfl rfl (vo_call rfl rfl ?_) | refine va_one 2 (by kernel_rfl) rfl rfl (vo_callV rfl rfl rfl ?_)
        refine vc_mono (number_vc w0 _ _ _ ((B.drop 3).take 8) (by omega) (by omega)) ?_
        rintro v L' ⟨rfl, rfl⟩
        refine ⟨.inr entD, ?_⟩
        skip
        first | refine va_one 5 (by kernel_rfl) rfl rfl (vo_call rfl rfl ?_) | refine va_one 5 (by kernel_rfl) rfl rfl (vo_callV rfl rfl rfl ?_)
        refine vc_mono (number_vc w0 _ _ _ (B.drop 11) (by omega) (by omega)) ?_
        rintro v L' ⟨rfl, rfl⟩
        refine ⟨.inr entD, ?_⟩
        ((refine tP 6 ?_) <;> (refine tP 7 ?_) <;> (refine va_one 8 (by kernel_rfl) rfl rfl ?_; (refine goV ?_; intros); refine ⟨.inl (by kernel_rfl), ?_⟩) <;> (refine va_done (by kernel_rfl) ?_))
        rw [hs]
        repeat' (first | (refine go1 ?_; intros) | (refine goCC ?_ ?_ <;> (intro hb; (try simp only [hSQ] at hb); try (exfalso; omega))) | fail)
        exact ⟨rfl, ⟨_, okA, hrd.symm⟩, by (exact sbS), (sei w0 _ _).trans (dqL_bare w0 rfl g g2 L)⟩
      · rw [if_neg h19] at hrd
        obtain ⟨z, hz⟩ := fin0 hrd
        generalize (rpK K C).cells = cs at *
        repeat' (first | (refine go1 ?_; intros) | (refine goCC ?_ ?_ <;> (intro hb; (try simp only [hSQ] at hb); try (exfalso; omega))) | fail)
        all_goals first | (exfalso; omega) | skip
        exact ⟨rfl, z, by (exact sbS), hz⟩
    rw [if_neg k2] at hrd
    by_cases k3 : K.toNat = 3
    · rw [if_pos k3] at hrd
      have s3 := hsm 3 8 (by decide)
      obtain ⟨H, hH⟩ : ∃ H, H = small22 B 3 8 := ⟨_, rfl⟩
      rw [← hH] at hrd s3
      have hs1 := Rp.tH ok0 H
      have ok1 : (Rp.mk K C H d32 0 0 recZero prf0 0 false ev0).ok := ⟨hCi, s3, rp0_ok.dig, ok0.nonce, ok0.bal, rp0_ok.rc, rp0_ok.recc, rp0_ok.prf, rp0_ok.sub, rp0_ok.num, rp0_ok.hd, rp0_ok.hdh, rp0_ok.hdm⟩
      change splice _ _ _ = (Rp.mk K C H d32 0 0 recZero prf0 0 false ev0).cells at hs1
      have lk1 := Rp.len ok1
      haveI oc1 : OC (Rp.mk K C H d32 0 0 recZero prf0 0 false ev0).cells := oc_rp _
      have hs2 := fun x hx => Rp.sR ok1 (x := x) hx
      generalize hcs : (rpK K C).cells = cs at *
      by_cases h46 : B.length = 46
      · rw [if_pos h46] at hrd
        haveI r2 : ∀ (M : List Asn) [RdC w0 M a (bvs B)], RdC w0 M (subA a 11 c 1) (bvs (B.drop 11)) := fun M _ => rd_drop 11 c hc
        have oR := recRead_ok (B.drop 11)
        have oRi := recRead_i64 (B.drop 11)
        have lR := Rec.len oR
        have hs3 := hs2 _ oR
        have ok2 := Rp.okR ok1 oR oRi
        haveI ocR : OC (recRead (B.drop 11)).1.cells := oc_rec _
        repeat' (first | (refine go1 ?_; intros) | (refine goCC ?_ ?_ <;> (intro hb; (try simp only [hSQ] at hb); try (exfalso; omega))) | fail)
        all_goals first | (exfalso; omega) | skip
        refine clV ?_
        refine vc_mono (rsmall22_vc w0 _ a c B 3 8 rfl (by omega) (by omega) (by omega) (by decide)) ?_
        rintro v L' ⟨rfl, rfl⟩
        rw [← hH]
        repeat' (first | (refine go1 ?_; intros) | (refine goCC ?_ ?_ <;> (intro hb; (try simp only [hSQ] at hb); try (exfalso; omega))) | fail)
        rw [hs1]
        generalize hY : (Rp.mk K C H d32 0 0 recZero prf0 0 false ev0).cells = Y at *
        repeat' (first | (refine go1 ?_; intros) | (refine goCC ?_ ?_ <;> (intro hb; (try simp only [hSQ] at hb); try (exfalso; omega))) | fail)
        all_goals first | (exfalso; omega) | skip
        refine clV ?_
        refine vc_mono (rrRead_vc w0 _ (subA a 11 c 1) (c - 11) (B.drop 11) (by simp) (by simp; omega) (by simp; omega)) ?_
        rintro v L' ⟨rfl, rfl⟩
        generalize hX : (recRead (B.drop 11)).1.cells = X at *
        repeat' (first | (refine go1 ?_; intros) | (refine goCC ?_ ?_ <;> (intro hb; (try simp only [hSQ] at hb); try (exfalso; omega))) | fail)
        refine vl_o rfl (vo_stB rfl rfl rfl lR (by rw [lk1, lR]; decide) hs3 ?_)
        repeat' (first | (refine go1 ?_; intros) | (refine goCC ?_ ?_ <;> (intro hb; (try simp only [hSQ] at hb); try (exfalso; omega))) | fail)
        exact ⟨rfl, ⟨_, ok2, hrd.symm⟩, by (exact sbS), (sei w0 _ _).trans (dqL_bare w0 rfl g g2 L)⟩
      · rw [if_neg h46] at hrd
        repeat' (first | (refine go1 ?_; intros) | (refine goCC ?_ ?_ <;> (intro hb; (try simp only [hSQ] at hb); try (exfalso; omega))) | fail)
        all_goals first | (exfalso; omega) | skip
        refine clV ?_
        refine vc_mono (rsmall22_vc w0 _ a c B 3 8 rfl (by omega) (by omega) (by omega) (by decide)) ?_
        rintro v L' ⟨rfl, rfl⟩
        rw [← hH]
        repeat' (first | (refine go1 ?_; intros) | (refine goCC ?_ ?_ <;> (intro hb; (try simp only [hSQ] at hb); try (exfalso; omega))) | fail)
        rw [hs1]
        repeat' (first | (refine go1 ?_; intros) | (refine goCC ?_ ?_ <;> (intro hb; (try simp only [hSQ] at hb); try (exfalso; omega))) | fail)
        all_goals first | (exfalso; omega) | skip
        exact ⟨rfl, ⟨_, ok1, hrd.symm⟩, by (exact sbS), (sei w0 _ _).trans (dqL_bare w0 rfl g g2 L)⟩
    rw [if_neg k3] at hrd
    by_cases k45 : K.toNat = 4 ∨ K.toNat = 5
    · have s3 := hsm 3 8 (by decide)
      obtain ⟨H, hH⟩ : ∃ H, H = small22 B 3 8 := ⟨_, rfl⟩
      rw [← hH] at hrd s3
      have hs1 := Rp.tH ok0 H
      have ok1 : (Rp.mk K C H d32 0 0 recZero prf0 0 false ev0).ok := ⟨hCi, s3, rp0_ok.dig, ok0.nonce, ok0.bal, rp0_ok.rc, rp0_ok.recc, rp0_ok.prf, rp0_ok.sub, rp0_ok.num, rp0_ok.hd, rp0_ok.hdh, rp0_ok.hdm⟩
      change splice _ _ _ = (Rp.mk K C H d32 0 0 recZero prf0 0 false ev0).cells at hs1
      have lk1 := Rp.len ok1
      haveI oc1 : OC (Rp.mk K C H d32 0 0 recZero prf0 0 false ev0).cells := oc_rp _
      have hdl := dig22_len B 11
      generalize hD : dig22 B 11 = D at *
      have ok2 := Rp.okD ok1 hdl
      have hs2 := Rp.sD ok1 hdl
      change (Rp.mk K C H D 0 0 recZero prf0 0 false ev0).ok at ok2
      change splice _ _ _ = (Rp.mk K C H D 0 0 recZero prf0 0 false ev0).cells at hs2
      have lk2 := Rp.len ok2
      haveI oc2 : OC (Rp.mk K C H D 0 0 recZero prf0 0 false ev0).cells := oc_rp _
      have hbl : (bvs D).length = 32 := by rw [bvs_length]; exact hdl
      have f02 : (Rp.mk K C H D 0 0 recZero prf0 0 false ev0).cells[0 + 0]? = some (.int .u8 (K.toNat : Nat)) := Rp.f0 ok2
      generalize hcs : (rpK K C).cells = cs at *
      by_cases k4 : K.toNat = 4
      · rw [if_pos k4] at hrd
        repeat' (first | (refine go1 ?_; intros) | (refine goCC ?_ ?_ <;> (intro hb; (try simp only [hSQ] at hb); try (exfalso; omega))) | fail)
        all_goals first | (exfalso; omega) | skip
        refine clV ?_
        refine vc_mono (rsmall22_vc w0 _ a c B 3 8 rfl (by omega) (by omega) (by omega) (by decide)) ?_
        rintro v L' ⟨rfl, rfl⟩
        rw [← hH]
        repeat' (first | (refine go1 ?_; intros) | (refine goCC ?_ ?_ <;> (intro hb; (try simp only [hSQ] at hb); try (exfalso; omega))) | fail)
        rw [hs1]
        repeat' (first | (refine go1 ?_; intros) | (refine goCC ?_ ?_ <;> (intro hb; (try simp only [hSQ] at hb); try (exfalso; omega))) | fail)
        refine clV ?_
        refine vc_mono (rdigest22_vc w0 _ a c B 11 rfl (by omega) (by omega)) ?_
        rintro v L' ⟨rfl, rfl⟩
        rw [hD]
        generalize hY : (Rp.mk K C H d32 0 0 recZero prf0 0 false ev0).cells = Y at *
        repeat' (first | (refine go1 ?_; intros) | (refine goCC ?_ ?_ <;> (intro hb; (try simp only [hSQ] at hb); try (exfalso; omega))) | fail)
        refine vl_o rfl (vo_stB rfl rfl rfl hbl (by rw [lk1, hbl]; decide) hs2 ?_)
        have hs3 := fun (q : Prf) (hq : q.ok) => Rp.sP ok2 hq
        generalize hZ : (Rp.mk K C H D 0 0 recZero prf0 0 false ev0).cells = Z at *
        repeat' (first | (refine go1 ?_; intros) | (refine goCC ?_ ?_ <;> (intro hb; (try simp only [hSQ] at hb); try (exfalso; omega))) | fail)
        all_goals first | (exfalso; omega) | skip
        refine clV ?_
        refine vc_mono (rreadProof_vc w0 _ a c B 43 rfl (by omega) hl (by decide)) ?_
        rintro v L' ⟨q, oq, hq, rfl, rfl⟩
        have lq := Prf.len oq
        haveI ocq : OC q.cells := oc_prf _
        have hs4 := hs3 q oq
        generalize hQ : q.cells = Q at *
        repeat' (first | (refine go1 ?_; intros) | (refine goCC ?_ ?_ <;> (intro hb; (try simp only [hSQ] at hb); try (exfalso; omega))) | fail)
        refine vl_o rfl (vo_stB rfl rfl rfl lq (by rw [lk2, lq]; decide) hs4 ?_)
        repeat' (first | (refine go1 ?_; intros) | (refine goCC ?_ ?_ <;> (intro hb; (try simp only [hSQ] at hb); try (exfalso; omega))) | fail)
        refine ⟨rfl, ⟨sxP (Rp.mk K C H D 0 0 recZero prf0 0 false ev0) q, Rp.okP ok2 oq, ?_⟩, by (exact sbS), Ent.refl _ _⟩
        rw [hrd, ← hq]
        rfl
      · rw [if_neg k4, if_pos (by omega)] at hrd
        repeat' (first | (refine go1 ?_; intros) | (refine goCC ?_ ?_ <;> (intro hb; (try simp only [hSQ] at hb); try (exfalso; omega))) | fail)
        all_goals first | (exfalso; omega) | skip
        refine clV ?_
        refine vc_mono (rsmall22_vc w0 _ a c B 3 8 rfl (by omega) (by omega) (by omega) (by decide)) ?_
        rintro v L' ⟨rfl, rfl⟩
        rw [← hH]
        repeat' (first | (refine go1 ?_; intros) | (refine goCC ?_ ?_ <;> (intro hb; (try simp only [hSQ] at hb); try (exfalso; omega))) | fail)
        rw [hs1]
        repeat' (first | (refine go1 ?_; intros) | (refine goCC ?_ ?_ <;> (intro hb; (try simp only [hSQ] at hb); try (exfalso; omega))) | fail)
        refine clV ?_
        refine vc_mono (rdigest22_vc w0 _ a c B 11 rfl (by omega) (by omega)) ?_
        rintro v L' ⟨rfl, rfl⟩
        rw [hD]
        generalize hY : (Rp.mk K C H d32 0 0 recZero prf0 0 false ev0).cells = Y at *
        repeat' (first | (refine go1 ?_; intros) | (refine goCC ?_ ?_ <;> (intro hb; (try simp only [hSQ] at hb); try (exfalso; omega))) | fail)
        refine vl_o rfl (vo_stB rfl rfl rfl hbl (by rw [lk1, hbl]; decide) hs2 ?_)
        repeat' (first | (refine go1 ?_; intros) | (refine goCC ?_ ?_ <;> (intro hb; (try simp only [hSQ] at hb); try (exfalso; omega))) | fail)
        all_goals first | (exfalso; omega) | skip
        exact ⟨rfl, ⟨_, ok2, hrd.symm⟩, by (exact sbS), (sei w0 _ _).trans (dqL_bare w0 rfl g g2 L)⟩
    rw [if_neg (by omega), if_neg (by omega)] at hrd
    by_cases k6 : K.toNat = 6
    · rw [if_pos k6] at hrd
      have s3 := hsm 3 4 (by decide)
      obtain ⟨H, hH⟩ : ∃ H, H = small22 B 3 4 := ⟨_, rfl⟩
      rw [← hH] at hrd s3
      have hs1 := Rp.tS ok0 H
      have ok1 : (Rp.mk K C 0 d32 0 0 recZero prf0 H false ev0).ok := ⟨hCi, rp0_ok.height, rp0_ok.dig, ok0.nonce, ok0.bal, rp0_ok.rc, rp0_ok.recc, rp0_ok.prf, s3, rp0_ok.num, rp0_ok.hd, rp0_ok.hdh, rp0_ok.hdm⟩
      change splice _ _ _ = (Rp.mk K C 0 d32 0 0 recZero prf0 H false ev0).cells at hs1
      generalize hcs : (rpK K C).cells = cs at *
      repeat' (first | (refine go1 ?_; intros) | (refine goCC ?_ ?_ <;> (intro hb; (try simp only [hSQ] at hb); try (exfalso; omega))) | fail)
      all_goals first | (exfalso; omega) | skip
      refine clV ?_
      refine vc_mono (rsmall22_vc w0 _ a c B 3 4 rfl (by omega) (by omega) (by omega) (by decide)) ?_
      rintro v L' ⟨rfl, rfl⟩
      rw [← hH]
      repeat' (first | (refine go1 ?_; intros) | (refine goCC ?_ ?_ <;> (intro hb; (try simp only [hSQ] at hb); try (exfalso; omega))) | fail)
      rw [hs1]
      exact ⟨rfl, ⟨_, ok1, hrd.symm⟩, by (exact sbS), (sei w0 _ _).trans (dqL_bare w0 rfl g g2 L)⟩
    rw [if_neg k6] at hrd
    by_cases k7 : K.toNat = 7
    · rw [if_pos k7] at hrd
      by_cases h121 : B.length = 121
      · rw [if_pos h121] at hrd
        haveI r2 : ∀ (M : List Asn) [RdC w0 M a (bvs B)], RdC w0 M (subA a 13 c 1) (bvs (B.drop 13)) := fun M _ => rd_drop 13 c hc
        have oH := hdRead_ok (B.drop 13)
        have oHi := hdRead_i64 (B.drop 13)
        have lH := Hd.len oH
        have s4 := hsm 4 8 (by decide)
        have hg3 := bvs_at B 3 (by omega)
        have hg12 := bvs_at B 12 (by omega)
        have hgd3 : B.getD 3 0 = B[3]'(by omega) := by simp [List.getD, List.getElem?_eq_getElem (show 3 < B.length by omega)]
        have hgd12 : B.getD 12 0 = B[12]'(by omega) := by simp [List.getD, List.getElem?_eq_getElem (show 12 < B.length by omega)]
        rw [hgd3, hgd12] at hrd
        obtain ⟨x3, hx3⟩ : ∃ x3, x3 = B[3]'(by omega) := ⟨_, rfl⟩
        obtain ⟨x12, hx12⟩ : ∃ x12, x12 = B[12]'(by omega) := ⟨_, rfl⟩
        rw [← hx3] at hrd hg3
        rw [← hx12] at hrd hg12
        have u1 : ∀ x : UInt8, decide (((x.toNat : Nat) : Int) = 1) = decide (x = 1) := fun x => decide_eq_decide.2 (u8_one x)
        obtain ⟨H, hH⟩ : ∃ H, H = small22 B 4 8 := ⟨_, rfl⟩
        rw [← hH] at hrd s4
        generalize hHd : (hdRead (B.drop 13)).1 = hd at *
        have okE : (Evt.mk H (decide (x12 = 1)) hd).hd.ok := oH
        have hs1 := Rp.tI ok0 okE (decide (x3 = 1))
        have ok1 : (Rp.mk K C 0 d32 0 0 recZero prf0 0 (decide (x3 = 1)) ⟨H, decide (x12 = 1), hd⟩).ok := ⟨hCi, rp0_ok.height, rp0_ok.dig, ok0.nonce, ok0.bal, rp0_ok.rc, rp0_ok.recc, rp0_ok.prf, rp0_ok.sub, s4, oH, oHi.1, oHi.2⟩
        change splice _ _ _ = (Rp.mk K C 0 d32 0 0 recZero prf0 0 (decide (x3 = 1)) ⟨H, decide (x12 = 1), hd⟩).cells at hs1
        have lE := Evt.len okE
        haveI ocH : OC hd.cells := oc_hd _
        generalize hcs : (rpK K C).cells = cs at *
        repeat' (first | (refine go1 ?_; intros) | (refine goCC ?_ ?_ <;> (intro hb; (try simp only [hSQ] at hb); try (exfalso; omega))) | fail)
        all_goals first | (exfalso; omega) | skip
        refine clV ?_
        refine vc_mono (rhRead_vc w0 _ (subA a 13 c 1) (c - 13) (B.drop 13) (by simp) (by simp; omega) (by simp; omega)) ?_
        rintro v L' ⟨rfl, rfl⟩
        rw [hHd]
        have hs2 : splice cs (0 + 139) (.bool (decide ((x3.toNat : Int) = 1)) :: (.int .i64 H :: .bool (decide ((x12.toNat : Int) = 1)) :: (hd.cells ++ []) ++ [])) = (Rp.mk K C 0 d32 0 0 recZero prf0 0 (decide (x3 = 1)) ⟨H, decide (x12 = 1), hd⟩).cells := by
          rw [u1, u1, List.append_nil, List.append_nil]
          exact hs1
        have hbl : (Value.bool (decide ((x3.toNat : Int) = 1)) :: (Value.int .i64 H :: Value.bool (decide ((x12.toNat : Int) = 1)) :: (hd.cells ++ []) ++ [])).length = 101 := by
          simp only [List.append_nil, List.length_cons, lH]
        generalize hX : (Rp.mk K C 0 d32 0 0 recZero prf0 0 (decide (x3 = 1)) ⟨H, decide (x12 = 1), hd⟩).cells = X at *
        repeat' (first | (refine go1 ?_; intros) | (refine goCC ?_ ?_ <;> (intro hb; (try simp only [hSQ] at hb); try (exfalso; omega))) | fail)
        rename_i gh
        refine v_draw0 [14] (by kernel_rfl) ?_
        refine tA 0 ?_
        refine tA 1 ?_
        refine tA 2 ?_
        refine tA 3 ?_
        refine tA 4 ?_
        refine tA 6 ?_
        refine tA 7 ?_
        refine tA 8 ?_
        refine tA 9 ?_
        refine tA 10 ?_
        refine va_one 5 (by kernel_rfl) rfl rfl ?_
        first | refine vo_call rfl rfl ?_ | refine vo_callV rfl rfl rfl ?_
        refine vc_mono (rsmall22_vc w0 _ a c B 4 8 rfl (by omega) (by omega) (by omega) (by decide)) ?_
        rintro v L' ⟨rfl, rfl⟩
        rw [← hH]
        refine ⟨.inr (sei _ _ _), ?_⟩
        refine va_takeP 11 rfl rfl rfl rfl (by kernel_rfl) (fun _ _ _ _ h => h) (.inl entD) (vq_build rfl rfl (by simp [plOf, Value.cells, lH]) (by simp [Value.cells, lH])) ?_
        refine va_takeP 12 rfl rfl rfl rfl (by kernel_rfl) (fun _ _ _ _ h => h) (.inl entD) (vq_build rfl rfl (by simp [plOf, Value.cells, lH]) (by simp [Value.cells, lH])) ?_
        refine tA 13 ?_
        refine va_one 14 (by kernel_rfl) rfl rfl ?_
        refine vo_stB rfl rfl rfl hbl (by rw [l0, hbl]; decide) hs2 ?_
        refine ⟨.inl (by kernel_rfl), ?_⟩
        refine va_done (by kernel_rfl) ?_
        rw [← hX]
        exact ⟨rfl, ⟨_, ok1, hrd.symm⟩, by (exact sbS), (sei w0 _ _).trans (dqL_bare w0 rfl g g2 L)⟩
      · rw [if_neg h121] at hrd
        obtain ⟨z, hz⟩ := fin0 hrd
        generalize (rpK K C).cells = cs at *
        repeat' (first | (refine go1 ?_; intros) | (refine goCC ?_ ?_ <;> (intro hb; (try simp only [hSQ] at hb); try (exfalso; omega))) | fail)
        all_goals first | (exfalso; omega) | skip
        exact ⟨rfl, z, by (exact sbS), hz⟩
    rw [if_neg k7] at hrd
    obtain ⟨z, hz⟩ := fin0 hrd
    generalize (rpK K C).cells = cs at *
    repeat' (first | (refine go1 ?_; intros) | (refine goCC ?_ ?_ <;> (intro hb; (try simp only [hSQ] at hb); try (exfalso; omega))) | fail)
    all_goals first | (exfalso; omega) | skip
    all_goals exact ⟨rfl, z, by (exact sbS), hz⟩
  rintro ⟨q, oq, hq⟩
  dsimp only
  have hok : (rdD B).ok := by
    rw [← hq]
    exact ⟨oq.code, oq.height, oq.dig, oq.nonce, oq.bal, oq.rc, oq.recc, ⟨oq.prf.key, oq.prf.kind, oq.prf.other, oq.prf.dg, oq.prf.vl, oq.prf.pl⟩, oq.sub, oq.num, oq.hd, oq.hdh, oq.hdm⟩
  have hmq : MayR (rdD B) ↔ MayR q := by rw [← hq]; exact mayR_at0
  have hoq : ofR (rdD B) = ofR q := by rw [← hq]; exact ofD_at0 q
  have lq := Rp.len oq
  haveI ocq : OC q.cells := oc_rp _
  unfold DqL sdO
  obtain ⟨cs, hcs⟩ : ∃ cs, cs = q.cells := ⟨_, rfl⟩
  rw [← hcs] at lq ocq ⊢
  have bad : ¬ (MayR q ∧ ofR q = B) → ∃ L'', Ent w0 L L'' ∧ RRdD w0 B L (.tuple #[.agg rp0.cells.toArray, .int .i64 220]) L'' := fun hno => by
    have hd : docR B = (rp0, 220) := if_neg (fun h => hno ⟨hmq.1 h.2.1, by rw [← hoq]; exact h.2.2⟩)
    refine ⟨_, (sdO_bare (r := rp0) rfl L).ent w0, fun _ => hok, rp0, none, 0, [], ?_, ?_, rfl⟩
    · rw [hd]
      exact HeldR.bare w0 rp0_ok rfl
    · rw [hd]
  repeat' (first | (refine go1 ?_; intros) | (refine goCC ?_ ?_ <;> (intro hb; (try simp only [hSQ] at hb); try (exfalso; omega))) | fail)
  refine clV ?_
  rw [hcs]
  refine vc_mono (rmayReply_vc w0 _ q oq) ?_
  rintro v L' ⟨rfl, rfl⟩
  rw [← hcs]
  by_cases hm : MayR q
  rotate_left
  · rw [decide_eq_false hm]
    obtain ⟨L2, hE, hR⟩ := bad (fun h => hm h.1)
    repeat' (first | (refine go1 ?_; intros) | (refine goCC ?_ ?_ <;> (intro hb; (try simp only [hSQ] at hb); try (exfalso; omega))) | fail)
    exact ⟨L2, (sei w0 _ L).trans hE, hR⟩
  rw [decide_eq_true hm]
  have hpp := mayR_prf oq hm
  repeat' (first | (refine go1 ?_; intros) | (refine goCC ?_ ?_ <;> (intro hb; (try simp only [hSQ] at hb); try (exfalso; omega))) | fail)
  refine clV ?_
  rw [hcs]
  refine vc_mono (rofReply_vc w0 _ q oq hm hpp.1 (by omega)) ?_
  rintro v L' ⟨a1, c1, rfl, rfl⟩
  rw [← hcs]
  generalize hT : ofR q = T at *
  repeat' (first | (refine go1 ?_; intros) | (refine goCC ?_ ?_ <;> (intro hb; (try simp only [hSQ] at hb); try (exfalso; omega))) | fail)
  refine clV ?_
  refine vc_mono (same_vc w0 _ a1 c1 T a c B rfl rfl) ?_
  rintro v L' ⟨rfl, rfl⟩
  by_cases hs : T = B
  · rw [decide_eq_true hs]
    have hd : docR B = (rdD B, 0) := if_pos ⟨by omega, hmq.2 hm, by rw [hoq]; exact hs⟩
    repeat' (first | (refine go1 ?_; intros) | (refine goCC ?_ ?_ <;> (intro hb; (try simp only [hSQ] at hb); try (exfalso; omega))) | fail)
    refine ⟨own 24 32 q.prf.pa q.prf.pl.length q.prf.pc (bvs q.prf.pl.flatten) :: ownB q.prf.va q.prf.vc q.prf.vl :: L, sei _ _ _, fun _ => hok, q, q.prf.va, q.prf.vc, q.prf.vl, ?_, ?_, rfl⟩
    · rw [hd]
      exact ⟨oq, by dsimp only; rw [rdD_at0]; exact hq, rfl, List.take_length⟩
    · rw [hd, hcs]
  · rw [decide_eq_false hs]
    obtain ⟨L2, hE, hR⟩ := bad (fun h => hs h.2)
    repeat' (first | (refine go1 ?_; intros) | (refine goCC ?_ ?_ <;> (intro hb; (try simp only [hSQ] at hb); try (exfalso; omega))) | fail)
    exact ⟨L2, (sei w0 _ L).trans hE, hR⟩
end Go.Proofs.Ytgffejpcldeklaa
namespace Go.Proofs.Ytgffejpcldeklaa
open Go Go.RowKit
open Classical

theorem wireReplies_vc (w0 : World) (r o : Rp) (h0 : r.ok0) (k0 : o.ok0) (ab : Option Addr) (cb : Nat) (B : List UInt8) {n : Nat} (hn : n = B.length) (hc : B.length ≤ cb) [hr : RdA w0 ab (bvs B)] [hr1 : RdA w0 r.prf.va (bvs r.prf.vl)] [hr2 : RdA w0 r.prf.pa (bvs r.prf.pl.flatten)] [ho1 : RdA w0 o.prf.va (bvs o.prf.vl)] [ho2 : RdA w0 o.prf.pa (bvs o.prf.pl.flatten)] :
    VC Try.prog w0 3 [.agg r.cells.toArray, .agg o.cells.toArray, .slice ab n cb] [] fun u L' => u = .bool true := by
  subst hn
  have hcl := h0.len
  have f6 := h0.f6
  have hpl0 := h0.prf.len
  have kcl := k0.len
  have g6 := k0.f6
  have kpl0 := k0.prf.len
  haveI hoc : OC r.cells := oc_rp _
  haveI hoo : OC o.cells := oc_rp _
  refine vc_in rfl rfl ?_
  obtain ⟨rcs, hrcs⟩ : ∃ rcs, rcs = r.cells := ⟨_, rfl⟩
  rw [← hrcs] at hcl f6 hoc ⊢
  obtain ⟨ocs, hocs⟩ : ∃ ocs, ocs = o.cells := ⟨_, rfl⟩
  rw [← hocs] at kcl g6 hoo ⊢
  repeat' (first | (refine go1 ?_; intros) | (refine goCC ?_ ?_ <;> (intro hb; (try simp only [hSQ] at hb); try (exfalso; omega))) | fail)
  rename_i gt go
  refine clV ?_
  refine vc_mono (great7_vc w0 _ r.prf h0.prf) ?_
  rintro u L' ⟨rfl, rfl⟩
  cases hg : decide (100 < r.prf.vl.length ∨ 300 < r.prf.pl.length)
  rotate_left
  · repeat' (first | (refine goU ?_; intros) | (refine goCC ?_ ?_ <;> (intro hb; (try simp only [hSQ] at hb); try (exfalso; omega))) | fail)
    exact rfl
  have hg' := of_decide_eq_false hg
  repeat' (first | (refine go1 ?_; intros) | (refine goCC ?_ ?_ <;> (intro hb; (try simp only [hSQ] at hb); try (exfalso; omega))) | fail)
  refine clV ?_
  refine vc_mono (great7_vc w0 _ o.prf k0.prf) ?_
  rintro u L' ⟨rfl, rfl⟩
  cases hgo : decide (100 < o.prf.vl.length ∨ 300 < o.prf.pl.length)
  rotate_left
  · repeat' (first | (refine goU ?_; intros) | (refine goCC ?_ ?_ <;> (intro hb; (try simp only [hSQ] at hb); try (exfalso; omega))) | fail)
    exact rfl
  have hgo' := of_decide_eq_false hgo
  by_cases hl : 10000 < B.length
  · repeat' (first | (refine go1 ?_; intros) | (refine goCC ?_ ?_ <;> (intro hb; (try simp only [hSQ] at hb); try (exfalso; omega))) | fail)
    all_goals first | (exfalso; omega) | exact rfl
  have h : r.ok := h0.ok (by omega) (by omega)
  have k : o.ok := k0.ok (by omega) (by omega)
  repeat' (first | (refine go1 ?_; intros) | (refine goCC ?_ ?_ <;> (intro hb; (try simp only [hSQ] at hb); try (exfalso; omega))) | fail)
  all_goals first | (exfalso; omega) | skip
  refine clV ?_
  refine vc_mono (twin_vc w0 _ ab cb B rfl (by omega)) ?_
  rintro u L' ⟨a2, c2, hc2, rfl, rfl⟩
  repeat' (first | (refine go1 ?_; intros) | (refine goCC ?_ ?_ <;> (intro hb; (try simp only [hSQ] at hb); try (exfalso; omega))) | fail)
  refine clV ?_
  rw [hrcs]
  refine vc_mono (wreply_vc w0 _ r h (by omega) (by omega)) ?_
  rintro u L' ⟨a3, c3, rfl, rfl⟩
  rw [← hrcs]
  repeat' (first | (refine go1 ?_; intros) | (refine goCC ?_ ?_ <;> (intro hb; (try simp only [hSQ] at hb); try (exfalso; omega))) | fail)
  refine clV ?_
  rw [hrcs]
  refine vc_mono (rreply22_vc w0 _ r h (by omega) (by omega)) ?_
  rintro u L' ⟨a4, c4, rfl, rfl⟩
  rw [← hrcs]
  generalize replyB r = X at *
  generalize (if MayR r then (0 : Int) else 8) = E at *
  repeat' (first | (refine go1 ?_; intros) | (refine goCC ?_ ?_ <;> (intro hb; (try simp only [hSQ] at hb); try (exfalso; omega))) | fail)
  refine clV ?_
  refine vc_mono (rread_vc w0 _ a2 c2 B rfl (by omega)) ?_
  rintro u L' ⟨q, av, cv, Z, hq, rfl, rfl⟩
  have hql := Rp.len hq.ok
  haveI hocq : OC q.cells := oc_rp _
  have hqv := hq.va
  have hqz := hq.cut
  have q6 := Rp.f6 hq.ok
  have qp3 := Prf.f3 hq.ok.prf
  obtain ⟨qc, hqc⟩ : ∃ qc, qc = q.cells := ⟨_, rfl⟩
  rw [← hqc] at hql hocq q6 ⊢
  haveI i1 := hq.vl
  repeat' (first | (refine go1 ?_; intros) | (refine goCC ?_ ?_ <;> (intro hb; (try simp only [hSQ] at hb); try (exfalso; omega))) | fail)
  rename_i g12
  refine clV ?_
  refine vc_mono (rread22_vc w0 _ ab cb B rfl hc (by omega)) ?_
  rintro u L' ⟨hdok, q2, av2, cv2, Z2, hq2, rfl, rfl⟩
  have hql2 := Rp.len hq2.ok
  haveI hocq2 : OC q2.cells := oc_rp _
  have hqok : (readR rpF B).1.ok := by
    have oq := hq.ok
    have e := hq.at0
    have e1 : (readR rpF B).1.at0.ok := by
      rw [← e]
      exact ⟨oq.code, oq.height, oq.dig, oq.nonce, oq.bal, oq.rc, oq.recc, ⟨oq.prf.key, oq.prf.kind, oq.prf.other, oq.prf.dg, oq.prf.vl, oq.prf.pl⟩, oq.sub, oq.num, oq.hd, oq.hdh, oq.hdm⟩
    exact ⟨e1.code, e1.height, e1.dig, e1.nonce, e1.bal, e1.rc, e1.recc, ⟨e1.prf.key, e1.prf.kind, e1.prf.other, e1.prf.dg, e1.prf.vl, e1.prf.pl⟩, e1.sub, e1.num, e1.hd, e1.hdh, e1.hdm⟩
  have hdoc : docR B = readR rpF B := by
    by_cases h3 : 3 ≤ B.length
    · exact docR_eq rpF (hdok h3) hqok
    · rw [show docR B = (rp0, 220) from if_neg (fun e => h3 e.1)]
      rcases readR_cases rpF B with ⟨x, hx⟩ | hx
      · have := (readR_may rpF hx).2.1
        have l3 := ofR_len3 x
        rw [this] at l3
        omega
      · exact hx.symm
  rw [hdoc] at hq2 ⊢
  have hqs : q.same q2 := by rw [same_at0, hq.at0, hq2.at0]
  generalize (readR rpF B).2 = E2 at *
  obtain ⟨qc2, hqc2⟩ : ∃ qc2, qc2 = q2.cells := ⟨_, rfl⟩
  rw [← hqc2] at hql2 hocq2 ⊢
  haveI i2 := hq2.vl
  repeat' (first | (refine go1 ?_; intros) | (refine goCC ?_ ?_ <;> (intro hb; (try simp only [hSQ] at hb); try (exfalso; omega))) | fail)
  rename_i g14
  refine clV ?_
  refine vc_mono (same_vc w0 _ a3 c3 X a4 c4 X rfl rfl) ?_
  rintro u L' ⟨rfl, rfl⟩
  rw [decide_eq_true rfl]
  repeat' (first | (refine goE ?_; intros) | (refine goCC ?_ ?_ <;> (intro hb; (try simp only [hSQ] at hb); try (exfalso; omega))) | fail)
  refine clV ?_
  rw [hqc, hqc2]
  refine vc_mono (rsame22_vc w0 _ q q2 hq.ok hq2.ok) ?_
  rintro u L' ⟨rfl, rfl⟩
  rw [← hqc, ← hqc2, decide_eq_true hqs]
  repeat' (first | (refine goE ?_; intros) | (refine goCC ?_ ?_ <;> (intro hb; (try simp only [hSQ] at hb); try (exfalso; omega))) | fail)
  have hcut : q.prf.vl.length ≤ Z.length := by
    have := congrArg List.length hqz
    rw [List.length_take] at this
    omega
  have qv : qc[0 + 71 + 65]? = some (.slice av q.prf.vl.length q.prf.vc) := by
    rw [hqc, ← hqv]
    exact sxP_get hq.ok hq.ok.prf (off := 65) qp3 (by decide)
  obtain ⟨V, hV⟩ : ∃ V, V = q.prf.vl.length := ⟨_, rfl⟩
  rw [← hV] at hcut qv
  have hVl : V ≤ 1000000000000 := by rw [hV]; exact hq.ok.prf.vl
  clear hqz qp3
  refine v_loopF (Nat × List UInt8) [2, 3, 4, 7, 12, 16] rfl (fun x => [(17, .int .i64 x.1)]) (fun _ x => [blk g12 41 qc, ownB av cv x.2, ownB a2 c2 B, blk go 41 ocs, blk gt 41 rcs]) (fun x => x.2.length = Z.length ∧ x.1 ≤ V) (fun x => V - x.1) (0, Z) ⟨rfl, Nat.zero_le _⟩ (by (exact sbS)) (sei _ _ _) ?_
  rintro ⟨i, Y⟩ ⟨hY, hi⟩
  dsimp only at hY hi ⊢
  by_cases hlt : i < V
  · have hgy := bvs_at Y i (by omega)
    have hyp : 0 < (bvs Y).length := by rw [bvs_length]; omega
    repeat' (first | (refine go1 ?_; intros) | (refine goCC ?_ ?_ <;> (intro hb; (try simp only [hSQ] at hb); try (exfalso; omega))) | fail)
    all_goals first | (exfalso; omega) | skip
    (refine v_draw0 [12] (by kernel_rfl) ?_ <;> (refine tA 0 ?_) <;> (refine tA 1 ?_) <;> (refine tA 2 ?_) <;> (refine tA 3 ?_) <;> (refine tA 4 ?_) <;> (refine tA 5 ?_) <;> (refine tA 6 ?_) <;> (refine tA 7 ?_) <;> (refine tA 8 ?_) <;> (refine tA 9 ?_) <;> (refine tA 10 ?_) <;> (refine tA 11 ?_) <;> (refine va_one 12 (by kernel_rfl) rfl rfl ?_; (refine goV ?_; intros); refine ⟨.inl (by kernel_rfl), ?_⟩) <;> (refine va_done (by kernel_rfl) ?_))
    repeat' (first | (refine go1 ?_; intros) | (refine goCC ?_ ?_ <;> (intro hb; (try simp only [hSQ] at hb); try (exfalso; omega))) | fail)
    refine ⟨rfl, (i + 1, Y.set i (UInt8.ofNat (((Y[i].toNat : Int) + 1) % 256).toNat)), ⟨by simpa using hY, by dsimp only; omega⟩, by dsimp only; omega, by (exact sbS), ?_⟩
    dsimp only
    rw [u8_wrap, splice_set Y i (by omega)]
    unfold ownB
    rw [List.length_set]
    exact Ent.refl _ _
  · repeat' (first | (refine go1 ?_; intros) | (refine goCC ?_ ?_ <;> (intro hb; (try simp only [hSQ] at hb); try (exfalso; omega))) | fail)
    all_goals first | (exfalso; omega) | skip
    (refine v_draw0 [] (by kernel_rfl) ?_ <;> (refine tA 0 ?_) <;> (refine tA 1 ?_) <;> (first | refine tG 2 ?_ | refine pG 2 ?_ | (refine va_caseG 2 rfl rfl rfl rfl rfl ?_ ?_ <;> (intro hb; (try simp only [hSQ] at hb); try (exfalso; omega)) <;> first | refine tG 2 ?_ | refine pG 2 ?_)) <;> (first | refine tG 3 ?_ | refine pG 3 ?_ | (refine va_caseG 3 rfl rfl rfl rfl rfl ?_ ?_ <;> (intro hb; (try simp only [hSQ] at hb); try (exfalso; omega)) <;> first | refine tG 3 ?_ | refine pG 3 ?_)) <;> (first | refine tG 5 ?_ | refine pG 5 ?_ | (refine va_caseG 5 rfl rfl rfl rfl rfl ?_ ?_ <;> (intro hb; (try simp only [hSQ] at hb); try (exfalso; omega)) <;> first | refine tG 5 ?_ | refine pG 5 ?_)) <;> (first | refine tG 6 ?_ | refine pG 6 ?_ | (refine va_caseG 6 rfl rfl rfl rfl rfl ?_ ?_ <;> (intro hb; (try simp only [hSQ] at hb); try (exfalso; omega)) <;> first | refine tG 6 ?_ | refine pG 6 ?_)))
    first | refine va_oneG 4 (by kernel_rfl) rfl rfl rfl rfl rfl rfl (vo_call rfl rfl ?_) | refine va_oneG 4 (by kernel_rfl) rfl rfl rfl rfl rfl rfl (vo_callV rfl rfl rfl ?_)
    rw [hrcs, hocs]
    refine vc_mono (wsame_vc w0 _ r o h k) ?_
    rintro u L' ⟨rfl, rfl⟩
    rw [← hrcs, ← hocs]
    refine ⟨.inr entD, ?_⟩
    skip
    first | refine va_oneG 7 (by kernel_rfl) rfl rfl rfl rfl rfl rfl (vo_call rfl rfl ?_) | refine va_oneG 7 (by kernel_rfl) rfl rfl rfl rfl rfl rfl (vo_callV rfl rfl rfl ?_)
    rw [hrcs, hocs]
    refine vc_mono (rsame22_vc w0 _ r o h k) ?_
    rintro u L' ⟨rfl, rfl⟩
    rw [← hrcs, ← hocs]
    refine ⟨.inr entD, ?_⟩
    ((first | refine va_takeG 8 rfl rfl rfl rfl rfl rfl rfl rfl (by kernel_rfl) (fun _ _ _ _ h => h) entD (by (first | (apply vq_isBin; first | exact vq_neS rfl rfl | exact vq_neBoolS rfl rfl | (apply vq_isOp .neq; first | exact vq_neBS rfl rfl (by first | assumption | (simp; done)) | exact vq_neTxS rfl rfl (by assumption)) | (apply vq_isOp .eql; first | exact vq_eqS rfl rfl | exact vq_eqBoolS rfl rfl | exact vq_eqBS rfl rfl (by first | assumption | (simp; done)) | exact vq_eqTxS rfl rfl (by assumption) | exact vq_eqHdS rfl rfl (by assumption) | exact vq_eqRecS rfl rfl (by assumption) | exact vq_eqTx rfl rfl (by assumption) (by assumption))) | (apply vq_isBin; first | exact vq_lt rfl rfl | exact vq_eq rfl rfl | exact vq_ne rfl rfl | (apply vq_isOp .add; exact vq_add rfl rfl (by first | exact wr_add (by omega) | exact wu_add (by omega) | exact wr_id (by omega) (by omega) | rfl)) | (apply vq_isOp .sub; exact vq_minus rfl rfl (by first | exact wr_sub (by omega) (by omega) | exact wu_sub (by omega) (by omega) | exact wr_id (by omega) (by omega) | rfl)) | exact vq_gt rfl rfl | exact vq_le rfl rfl | exact vq_ge rfl rfl | (apply vq_isOp .mul; exact vq_mul rfl rfl (by first | exact wr_mul (by omega) | exact wr_id (by omega) (by omega) | rfl)) | (apply vq_isOp .or; exact vq_or rfl rfl (by rfl)) | (apply vq_isOp .and; exact vq_and rfl rfl (by rfl)) | (apply vq_isOp .xor; exact vq_xor rfl rfl (by rfl)) | (apply vq_isOp .shl; exact vq_shl rfl rfl (by omega) (by rfl)) | (apply vq_isOp .shr; exact vq_shr rfl rfl (by omega) (by rfl)) | (apply vq_isOp .quo; exact vq_quo rfl rfl (by decide) (by first | exact q8_i64 (by omega) | exact q2_u8 (by omega) | exact q4_i64 (by omega) | assumption | rfl)) | (apply vq_isOp .rem; exact vq_rem rfl rfl (by decide) (by first | exact r8 | exact r2 | exact r4 | exact r64 | assumption | rfl)) | exact vq_eqNil rfl rfl | exact vq_eqBool rfl rfl | (apply vq_isOp .eql; exact vq_eqB rfl rfl (by first | assumption | (simp; done)) (by first | assumption | (simp; done))) | (apply vq_isOp .neq; first | exact vq_neBool rfl rfl | exact vq_neB rfl rfl (by first | assumption | (simp; done)) (by first | assumption | (simp; done)))))) ?_ | refine pG 8 ?_ | (refine va_caseG 8 rfl rfl rfl rfl rfl ?_ ?_ <;> (intro hb; (try simp only [hSQ] at hb); try (exfalso; omega)) <;> first | refine va_takeG 8 rfl rfl rfl rfl rfl rfl rfl rfl (by kernel_rfl) (fun _ _ _ _ h => h) entD (by (first | (apply vq_isBin; first | exact vq_neS rfl rfl | exact vq_neBoolS rfl rfl | (apply vq_isOp .neq; first | exact vq_neBS rfl rfl (by first | assumption | (simp; done)) | exact vq_neTxS rfl rfl (by assumption)) | (apply vq_isOp .eql; first | exact vq_eqS rfl rfl | exact vq_eqBoolS rfl rfl | exact vq_eqBS rfl rfl (by first | assumption | (simp; done)) | exact vq_eqTxS rfl rfl (by assumption) | exact vq_eqHdS rfl rfl (by assumption) | exact vq_eqRecS rfl rfl (by assumption) | exact vq_eqTx rfl rfl (by assumption) (by assumption))) | (apply vq_isBin; first | exact vq_lt rfl rfl | exact vq_eq rfl rfl | exact vq_ne rfl rfl | (apply vq_isOp .add; exact vq_add rfl rfl (by first | exact wr_add (by omega) | exact wu_add (by omega) | exact wr_id (by omega) (by omega) | rfl)) | (apply vq_isOp .sub; exact vq_minus rfl rfl (by first | exact wr_sub (by omega) (by omega) | exact wu_sub (by omega) (by omega) | exact wr_id (by omega) (by omega) | rfl)) | exact vq_gt rfl rfl | exact vq_le rfl rfl | exact vq_ge rfl rfl | (apply vq_isOp .mul; exact vq_mul rfl rfl (by first | exact wr_mul (by omega) | exact wr_id (by omega) (by omega) | rfl)) | (apply vq_isOp .or; exact vq_or rfl rfl (by rfl)) | (apply vq_isOp .and; exact vq_and rfl rfl (by rfl)) | (apply vq_isOp .xor; exact vq_xor rfl rfl (by rfl)) | (apply vq_isOp .shl; exact vq_shl rfl rfl (by omega) (by rfl)) | (apply vq_isOp .shr; exact vq_shr rfl rfl (by omega) (by rfl)) | (apply vq_isOp .quo; exact vq_quo rfl rfl (by decide) (by first | exact q8_i64 (by omega) | exact q2_u8 (by omega) | exact q4_i64 (by omega) | assumption | rfl)) | (apply vq_isOp .rem; exact vq_rem rfl rfl (by decide) (by first | exact r8 | exact r2 | exact r4 | exact r64 | assumption | rfl)) | exact vq_eqNil rfl rfl | exact vq_eqBool rfl rfl | (apply vq_isOp .eql; exact vq_eqB rfl rfl (by first | assumption | (simp; done)) (by first | assumption | (simp; done))) | (apply vq_isOp .neq; first | exact vq_neBool rfl rfl | exact vq_neB rfl rfl (by first | assumption | (simp; done)) (by first | assumption | (simp; done)))))) ?_ | refine pG 8 ?_)) <;> (refine tA 9 ?_) <;> (refine tA 10 ?_) <;> (first | refine tG 11 ?_ | refine pG 11 ?_ | (refine va_caseG 11 rfl rfl rfl rfl rfl ?_ ?_ <;> (intro hb; (try simp only [hSQ] at hb); try (exfalso; omega)) <;> first | refine tG 11 ?_ | refine pG 11 ?_)) <;> (first | refine tG 12 ?_ | refine pG 12 ?_ | (refine va_caseG 12 rfl rfl rfl rfl rfl ?_ ?_ <;> (intro hb; (try simp only [hSQ] at hb); try (exfalso; omega)) <;> first | refine tG 12 ?_ | refine pG 12 ?_)))
    first | refine va_oneG 13 (by kernel_rfl) rfl rfl rfl rfl rfl rfl (vo_call rfl rfl ?_) | refine va_oneG 13 (by kernel_rfl) rfl rfl rfl rfl rfl rfl (vo_callV rfl rfl rfl ?_)
    rw [hrcs]
    refine vc_mono (wsame_vc w0 _ r r h h) ?_
    rintro u L' ⟨rfl, rfl⟩
    rw [← hrcs, decide_eq_true ((same_at0 r r).2 rfl)]
    refine ⟨.inr entD, ?_⟩
    ((refine tA 14 ?_) <;> (refine tA 15 ?_) <;> (first | refine tG 16 ?_ | refine pG 16 ?_ | (refine va_caseG 16 rfl rfl rfl rfl rfl ?_ ?_ <;> (intro hb; (try simp only [hSQ] at hb); try (exfalso; omega)) <;> first | refine tG 16 ?_ | refine pG 16 ?_)) <;> (first | refine tG 17 ?_ | refine pG 17 ?_ | (refine va_caseG 17 rfl rfl rfl rfl rfl ?_ ?_ <;> (intro hb; (try simp only [hSQ] at hb); try (exfalso; omega)) <;> first | refine tG 17 ?_ | refine pG 17 ?_)))
    first | refine va_oneG 18 (by kernel_rfl) rfl rfl rfl rfl rfl rfl (vo_call rfl rfl ?_) | refine va_oneG 18 (by kernel_rfl) rfl rfl rfl rfl rfl rfl (vo_callV rfl rfl rfl ?_)
    refine vc_mono (same_vc w0 _ a2 c2 B ab cb B rfl rfl) ?_
    rintro u L' ⟨rfl, rfl⟩
    rw [decide_eq_true rfl]
    refine ⟨.inr entD, ?_⟩
    ((refine tA 19 ?_) <;> (refine tA 20 ?_) <;> (refine va_done (by kernel_rfl) ?_))
    repeat' (first | (refine go1 ?_; intros) | (refine goCC ?_ ?_ <;> (intro hb; (try simp only [hSQ] at hb); try (exfalso; omega))) | fail)
    exact rfl
end Go.Proofs.Ytgffejpcldeklaa
