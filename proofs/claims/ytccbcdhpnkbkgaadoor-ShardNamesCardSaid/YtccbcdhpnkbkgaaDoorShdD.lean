/-
  Shards: twins.
-/
import Derived.Test.YtccbcdhpnkbkgaaDoorShdC
import Derived.Test.YtccbcdhpnkbkgaaDoorGX
set_option linter.unusedVariables false
set_option linter.unusedSimpArgs false
namespace Go.Proofs.YtccbcdhpnkbkgaaDoor
open Go Go.RowKit
set_option linter.unusedVariables false
set_option linter.unusedSimpArgs false
open Classical

theorem se_ls_nil (L : List Asn) : SE L (ownLs none 0 [] :: tsA [] :: L) := (se_tsA_nil L).trans (se_own_nil 49 33 _)
/-- A line elsewhere. -/
abbrev Ln.to (l : Ln) (a : Option Addr) (c : Nat) : Ln := { l with a := a, c := c }
theorem Ln.to_pl (l : Ln) (a : Option Addr) (c : Nat) : (l.to a c).pl = l.pl := rfl
theorem cloneLs_vc (w0 : World) (L : List Asn) (a : Option Addr) (cap : Nat) (ls : List Ln) {n : Nat} (hn : n = ls.length) (h : LsOk ls) [hr : RdC w0 L a (lnc ls)] :
    VC Tryd.prog w0 54 [.slice a n cap] L fun v L' => ∃ a' c', v = .slice a' ls.length c' ∧ L' = ownLs a' c' ls :: L := by
  subst hn
  have hlen := h.len
  have hfx : (lnc ls).length = ls.length * 33 := h.wide.len
  refine vc_know (φ := a = none → ls.length = 0) (fun w hs e => ?_) (fun hnil => ?_)
  · rcases hr.out w hs with h | ⟨_, _, e', _⟩
    · rw [h] at hfx
      simp only [List.length_nil] at hfx
      omega
    · rw [e] at e'; cases e'
  refine vc_ent ?_
  refine vc_in rfl rfl ?_
  repeat' (first | (refine go1 ?_; intros) | ((first | refine vl_caseG rfl rfl rfl rfl ?_ ?_ | refine v_cond rfl ?_ ?_) <;> (intro hb; (try simp only [hq1, hq2, hq3, hq4, ne_eq, hq5, hq6, hq7, hq8] at hb); try (exfalso; omega))) | fail)
  · have h0 := hnil hb
    obtain rfl : ls = [] := List.eq_nil_of_length_eq_zero h0
    exact ⟨_, (se_own_nil _ 33 _).ent w0, none, 0, rfl, rfl⟩
  · rename_i g a' c' _ _
    refine ⟨_, Ent.refl _ _, a', c', ?_, ?_⟩
    · rw [Nat.zero_add]
    · rw [Nat.zero_add]; rfl
set_option maxRecDepth 100000 in
set_option maxHeartbeats 1000000 in
theorem stwin_vc (w0 : World) (L : List Asn) (a : Option Addr) (c : Nat) (ls : List Ln) {n : Nat} (hn : n = ls.length) (h : LsOk ls) [hr : RdC w0 L a (lnc ls)] [hv : RdLs w0 L ls] :
    VC Tryd.prog w0 22 [.agg #[.slice a n c]] L (RSh w0 L ls) := by
  subst hn
  have hlen := h.len
  refine vc_ent ?_
  refine vc_in rfl rfl ?_
  repeat' (first | (refine go1 ?_; intros) | ((first | refine vl_caseG rfl rfl rfl rfl ?_ ?_ | refine v_cond rfl ?_ ?_) <;> (intro hb; (try simp only [hq1, hq2, hq3, hq4, ne_eq, hq5, hq6, hq7, hq8] at hb); try (exfalso; omega))) | fail)
  refine vl_o rfl (vo_call rfl rfl ?_)
  refine vc_mono (cloneLs_vc w0 _ a c ls rfl h) ?_
  rintro v L' ⟨a', c', rfl, rfl⟩
  repeat' (first | (refine go1 ?_; intros) | ((first | refine vl_caseG rfl rfl rfl rfl ?_ ?_ | refine v_cond rfl ?_ ?_) <;> (intro hb; (try simp only [hq1, hq2, hq3, hq4, ne_eq, hq5, hq6, hq7, hq8] at hb); try (exfalso; omega))) | fail)
  rename_i g1 g2 g3
  refine v_loopF (List Ln) [1, 2, 3, 11] rfl (fun ms => [(12, .int .i64 ms.length)]) (fun _ ms => own 49 33 a' ls.length c' (lnc (ms ++ ls.drop ms.length)) :: tsA ms :: blk g3 24 [.slice a' ls.length c'] :: blk g2 24 [.slice none 0 0] :: blk g1 24 [.slice a ls.length c] :: L) (fun ms => ms.length ≤ ls.length ∧ lls ms = (lls ls).take ms.length) (fun ms => ls.length - ms.length) [] ⟨Nat.zero_le _, by simp⟩ (by (repeat' (first | exact Sub.nil _ | refine Sub.cons rfl rfl ?_ | refine Sub.cons rfl ?_ ?_))) ?_ ?_
  · exact (sei w0 _ (ownLs a' c' ls :: blk g3 24 [.slice a' ls.length c'] :: blk g2 24 [.slice none 0 0] :: blk g1 24 [.slice a ls.length c] :: L)).trans ((SE.cons _ (se_tsA_nil _)).ent w0)
  rintro ms ⟨hi, hp⟩
  obtain ⟨i, hni⟩ : ∃ i, i = ms.length := ⟨_, rfl⟩
  rw [← hni] at hi hp ⊢
  by_cases hlt : i < ls.length
  · obtain ⟨ws, hws⟩ : ∃ ws, ws = ms ++ ls.drop i := ⟨_, rfl⟩
    rw [← hws]
    have hkw : lls ws = lls ls := by
      rw [hws]
      simp only [List.map_append]
      rw [show ms.map Ln.pl = lls ms from rfl, hp, List.map_drop, List.take_append_drop]
    have okw := h.of_lls hkw
    have hwl : ws.length = ls.length := lls_len hkw
    have hwi : ws[i]'(by omega) = ls[i] := by
      have : ws[i]? = ls[i]? := by rw [hws, List.getElem?_append_right (by omega), List.getElem?_drop, show i + (i - ms.length) = i by omega]
      rw [List.getElem?_eq_getElem (by omega), List.getElem?_eq_getElem hlt] at this
      exact Option.some.inj this
    have e1 := okw.e i (by omega)
    rw [hwi] at e1
    have hpos := okw.pos i (by omega)
    have hmul : i * 33 + 33 ≤ (lnc ws).length := okw.wide.mul i (by omega)
    have lok := h.at i hlt
    haveI := hv.at i hlt
    have hpt : (lls ls).take (i + 1) = (lls ls).take i ++ [ls[i].pl] := by rw [List.take_succ_eq_append_getElem (by simpa using hlt), List.getElem_map]
    have hsp : ∀ a2 c2, splice (lnc ws) (i * 33) (ls[i].to a2 c2).cells = lnc (ms ++ [ls[i].to a2 c2] ++ ls.drop (i + 1)) := by
      intro a2 c2
      have hset : ws.set i (ls[i].to a2 c2) = ms ++ [ls[i].to a2 c2] ++ ls.drop (i + 1) := by
        rw [hws, List.set_append_right _ _ (by omega), show i - ms.length = 0 by omega, List.drop_eq_getElem_cons hlt, List.set_cons_zero, List.append_assoc]
        rfl
      rw [← hset]
      exact okw.wide.spl (x := ls[i].to a2 c2) (Ln.len lok.own) i (by omega)
    have hcl2 : ∀ a2 c2, (ls[i].to a2 c2).cells.length = 33 := fun a2 c2 => Ln.len lok.own
    have hcl := Ln.len lok.own
    generalize lnc ws = cs at *
    repeat' (first | (refine go1 ?_; intros) | ((first | refine vl_caseG rfl rfl rfl rfl ?_ ?_ | refine v_cond rfl ?_ ?_) <;> (intro hb; (try simp only [hq1, hq2, hq3, hq4, ne_eq, hq5, hq6, hq7, hq8] at hb); try (exfalso; omega))) | fail)
    refine v_draw0 [10] (by kernel_rfl) ?_
    refine va_takeA 0 rfl rfl rfl rfl ?_
    refine va_takeA 1 rfl rfl rfl rfl ?_
    refine va_takeA 2 rfl rfl rfl rfl ?_
    refine va_takeA 3 rfl rfl rfl rfl ?_
    refine va_takeA 4 rfl rfl rfl rfl ?_
    refine va_takeA 5 rfl rfl rfl rfl ?_
    refine va_takeA 6 rfl rfl rfl rfl ?_
    refine va_takeA 7 rfl rfl rfl rfl ?_
    refine va_one 8 (by kernel_rfl) rfl rfl ?_
    first | refine vo_call rfl rfl ?_ | refine vo_callV rfl rfl rfl ?_
    refine vc_mono (qtwinL_vc w0 _ ls[i] lok) ?_
    rintro v L' ⟨a2, c2, rfl, rfl⟩
    have hcl3 : (Ln.mk ls[i].own a2 c2 ls[i].xs).cells.length = 33 := hcl2 a2 c2
    refine ⟨.inr (sei _ _ _), ?_⟩
    refine va_takeA 9 rfl rfl rfl rfl ?_
    refine va_one 10 (by kernel_rfl) rfl rfl ?_
    (first | (refine vo_box rfl rfl rfl ?_; intro _) | (refine vo_alloc rfl ?_; intro _) | (refine vo_isStore ?_; first | (refine vo_isPt0 rfl ?_; refine vo_stWA rfl rfl ?_) | (refine vo_isPt rfl ?_; refine vo_stBA rfl rfl ?_) | (refine vo_stO rfl rfl (by rfl) (by first | rfl | assumption) (by first | assumption | (simp; done) | (simp; omega) | omega) rfl ?_; skip)) | (refine vo_isCall ?_; first | (refine vo_isApp ?_; first | (refine vo_append0A rfl rfl rfl ?_; intro _ _ _ _) | (refine vo_appendA rfl rfl rfl ?_; intro _ _ _ _)) | (refine vo_isCopy ?_; refine vo_copyB rfl rfl rfl (by assumption) (by assumption) (by assumption) (by assumption) ?_) | refine vo_yield rfl rfl rfl rfl rfl ?_ | refine vo_callV rfl rfl rfl (vc_in rfl rfl ?_)) | refine vo_convRow rfl rfl ?_ | (refine vo_isBs ?_; refine vo_buildSlice rfl rfl rfl (by decide) (by repeat' (first | exact trivial | rfl | assumption | refine ⟨?_, ?_⟩ | (simp; done) | (simp; omega))) (by decide) rfl ?_; intro _) | (refine vo_buildSlice0 rfl ?_; intro _) | fail)
    refine ⟨.inl (by kernel_rfl), ?_⟩
    refine va_done (by kernel_rfl) ?_
    skip
    repeat' (first | (refine go1 ?_; intros) | ((first | refine vl_caseG rfl rfl rfl rfl ?_ ?_ | refine v_cond rfl ?_ ?_) <;> (intro hb; (try simp only [hq1, hq2, hq3, hq4, ne_eq, hq5, hq6, hq7, hq8] at hb); try (exfalso; omega))) | fail)
    rw [show splice cs (i * 33) (Ln.mk ls[i].own a2 c2 ls[i].xs).cells = _ from hsp a2 c2]
    refine ⟨rfl, ms ++ [ls[i].to a2 c2], ⟨by simp; omega, ?_⟩, by simp; omega, ?_, ?_⟩
    · simp only [List.map_append, List.map_cons, List.map_nil, List.length_append, List.length_cons, List.length_nil, ← hni, Nat.zero_add]
      rw [show List.map Ln.pl ms = lls ms from rfl, hp, hpt, Ln.to_pl]
    · simp only [List.length_append, List.length_cons, List.length_nil, ← hni, Nat.zero_add]
      (repeat' (first | exact Sub.nil _ | refine Sub.cons rfl rfl ?_ | refine Sub.cons rfl ?_ ?_))
    · simp only [List.length_append, List.length_cons, List.length_nil, ← hni, Nat.zero_add]
      exact ((se_swap _ _ _).trans (SE.cons _ (se_tsA_snoc ms _ (ls[i].to a2 c2)))).ent w0
  · have hin : i = ls.length := by omega
    rw [List.drop_eq_nil_of_le (by omega), List.append_nil]
    repeat' (first | (refine go1 ?_; intros) | ((first | refine vl_caseG rfl rfl rfl rfl ?_ ?_ | refine v_cond rfl ?_ ?_) <;> (intro hb; (try simp only [hq1, hq2, hq3, hq4, ne_eq, hq5, hq6, hq7, hq8] at hb); try (exfalso; omega))) | fail)
    refine ⟨_, ?_, a', c', ms, by rw [← hni, hin], by rw [hp, List.take_of_length_le (by simp; omega)], rfl⟩
    unfold ownLs
    rw [← hni, hin]
    exact sei _ _ _
end Go.Proofs.YtccbcdhpnkbkgaaDoor
