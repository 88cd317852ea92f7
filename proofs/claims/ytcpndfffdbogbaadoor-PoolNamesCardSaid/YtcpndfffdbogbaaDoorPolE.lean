/-
  Pools: whether a pool and a state may be asked; a pool with one shard turned.
-/
import Derived.Test.YtcpndfffdbogbaaDoorPolP
set_option linter.unusedVariables false
set_option linter.unusedSimpArgs false
namespace Go.Proofs.YtcpndfffdbogbaaDoor
open Go Go.RowKit
set_option linter.unusedVariables false
set_option linter.unusedSimpArgs false
set_option linter.unusedSectionVars false
open Classical

set_option maxRecDepth 100000 in
set_option maxHeartbeats 2000000 in
theorem pasked_vc (w0 : World) (L : List Asn) [hK : RdA w0 (some ⟨0, 0, none⟩) (wds K64)] (a : Option Addr) (c : Nat) (ss : List Sh) (ta : Option Addr) (tc : Nat) (ns : List Nd) (r : Int) {n tn : Nat} (hn : n = ss.length) (htn : tn = ns.length) (h : SsOk ss) (hok : NsOk ns) [hr : RdC w0 L a (shc ss)] [hv : RdSs w0 L ss] [hr2 : RdC w0 L ta (ndc ns)] [hv2 : RdNs w0 L ns] :
    VC Tryd.prog w0 19 [.slice a n c, .agg #[.slice ta tn tc, .int .i64 r]] L fun v L' => v = .int .i64 (if MayO (shl ss) ∧ StP ns r then 0 else 8) ∧ L' = L := by
  subst hn
  subst htn
  have e : max (if mayPo ss = true then (0 : Int) else 8) (if StP ns r then 0 else 8) = if MayO (shl ss) ∧ StP ns r then 0 else 8 := by
    by_cases h1 : mayPo ss = true
    · rw [if_pos h1]
      by_cases h2 : StP ns r
      · rw [if_pos h2, if_pos ⟨mayO_iff.1 h1, h2⟩]
        rfl
      · rw [if_neg h2, if_neg (fun f => h2 f.2)]
        rfl
    · rw [if_neg h1, if_neg (show ¬ (MayO (shl ss) ∧ StP ns r) from fun f => h1 (mayO_iff.2 f.1))]
      split <;> rfl
  refine vc_ent ?_
  refine vc_in rfl rfl ?_
  repeat' (first | (refine go1 ?_; intros) | (refine goCC ?_ ?_ <;> (intro hb; (try simp only [hSQ] at hb); try (exfalso; omega))) | fail)
  (refine v_draw0 [] (by kernel_rfl) ?_ <;> (refine tA 0 ?_) <;> (refine tA 2 ?_))
  first | refine va_one 1 (by kernel_rfl) rfl rfl (vo_call rfl rfl ?_) | refine va_one 1 (by kernel_rfl) rfl rfl (vo_callV rfl rfl rfl ?_)
  refine vc_mono (pcheck21_vc w0 _ a c ss rfl h) ?_
  rintro v L' ⟨rfl, rfl⟩
  refine ⟨.inr entD, ?_⟩
  skip
  first | refine va_one 3 (by kernel_rfl) rfl rfl (vo_call rfl rfl ?_) | refine va_one 3 (by kernel_rfl) rfl rfl (vo_callV rfl rfl rfl ?_)
  refine vc_mono (acheck_vc w0 _ ta tc ns r rfl hok) ?_
  rintro v L' ⟨rfl, rfl⟩
  refine ⟨.inr entD, ?_⟩
  refine va_take 4 rfl rfl rfl rfl (by kernel_rfl) (fun _ _ _ _ h => h) entD (vq_maxI rfl rfl) ?_
  rw [e]
  refine tA 5 ?_
  (refine va_done (by kernel_rfl) ?_)
  repeat' (first | (refine go1 ?_; intros) | (refine goCC ?_ ?_ <;> (intro hb; (try simp only [hSQ] at hb); try (exfalso; omega))) | fail)
  exact ⟨L, sei _ _ _, rfl, rfl⟩
set_option maxRecDepth 100000 in
set_option maxHeartbeats 2000000 in
theorem pturned_vc (w0 : World) (L : List Asn) (a : Option Addr) (c : Nat) (ss : List Sh) (i : Int) (f : FuncId) (cap : Array Value) (q : Nat → List LC × List Tx × Int) {n : Nat} (hn : n = ss.length) (h : SsOk ss) [hf : FnB Tryd.prog f] [hr : RdC w0 L a (shc ss)] [hv : RdSs w0 L ss] (hq : ∀ k (hk : k < ss.length), i = (k : Int) → VC Tryd.prog w0 f ([.agg #[.slice ss[k].a ss[k].ls.length ss[k].c]] ++ cap.toList) L (RSub (q k) L)) :
    VC Tryd.prog w0 21 [.slice a n c, .int .i64 i, .func (.func f) #[] cap] L (RPS (turnO (shl ss) i q []) L) := by
  subst hn
  have hlen := h.len
  refine vc_ent ?_
  refine vc_in rfl rfl ?_
  by_cases hi : 0 ≤ i ∧ i < ss.length
  rotate_left
  · have e : turnO (shl ss) i q [] = ([], [], 2) := if_neg (by rw [shl_length]; exact hi)
    rw [e]
    repeat' (first | (refine go1 ?_; intros) | (refine goCC ?_ ?_ <;> (intro hb; (try simp only [hSQ] at hb); try (exfalso; omega))) | fail)
    all_goals first | (exfalso; omega) | exact RPS.bad w0 L 2 (sei _ _ _)
  obtain ⟨k, rfl⟩ : ∃ k : Nat, i = k := ⟨i.toNat, by omega⟩
  have hk : k < ss.length := by omega
  have eT : turnO (shl ss) (k : Int) q [] = if (q k).2.2 = 0 then ((shl ss).set k (q k).1, (q k).2.1, 0) else ([], [], (q k).2.2) := by
    unfold turnO
    rw [if_pos (by rw [shl_length]; exact hi), Int.toNat_natCast]
  have e' := shs_e1 k hk
  have hpos := h.pos k hk
  haveI := hv.at k hk
  haveI := hv.at2 k hk
  have hqk := hq k hk rfl
  rw [eT]
  generalize q k = Q at *
  obtain ⟨Q1, Q2, Q3⟩ := Q
  dsimp only at eT ⊢
  repeat' (first | (refine goN ?_; intros) | (refine goCC ?_ ?_ <;> (intro hb; (try simp only [hSQ] at hb); try (exfalso; omega))) | fail)
  all_goals first | (exfalso; omega) | skip
  refine vl_o rfl (vo_callV rfl rfl rfl ?_)
  refine vc_mono hqk ?_
  rintro v L' ⟨a1, c1, ms, b1, d1, rfl, hms, hmo, rfl⟩
  dsimp only at hms ⊢
  by_cases he : Q3 = 0
  rotate_left
  · rw [if_neg he]
    repeat' (first | (refine go1 ?_; intros) | (refine goCC ?_ ?_ <;> (intro hb; (try simp only [hSQ] at hb); try (exfalso; omega))) | fail)
    all_goals first | exact RPS.bad w0 L Q3 (sei _ _ _) | (exfalso; omega)
  subst he
  rw [if_pos rfl]
  repeat' (first | (refine go1 ?_; intros) | (refine goCC ?_ ?_ <;> (intro hb; (try simp only [hSQ] at hb); try (exfalso; omega))) | fail)
  all_goals first | (exfalso; omega) | skip
  refine vl_o rfl (vo_call rfl rfl ?_)
  refine vc_mono (ptwin21_vc w0 _ a c ss rfl h) ?_
  rintro v L' ⟨a2, c2, ts, rfl, hts, rfl⟩
  have hto := h.of_shl hts
  have htl := shl_len hts
  have hkt : k < ts.length := by omega
  have htc := shs_len ts
  have hpos2 := hto.pos k hkt
  have hset := shc_set ts hkt ⟨a1, c1, ms⟩
  dsimp only at hset
  repeat' (first | (refine go1 ?_; intros) | (refine goCC ?_ ?_ <;> (intro hb; (try simp only [hSQ] at hb); try (exfalso; omega))) | fail)
  rename_i g10
  rw [hset]
  refine ⟨ownSs a2 c2 (ts.set k ⟨a1, c1, ms⟩) :: shA (ts.set k ⟨a1, c1, ms⟩) :: ownTs b1 d1 Q2 :: L, ?_, a2, c2, ts.set k ⟨a1, c1, ms⟩, b1, d1, ?_, ?_, hto.set k hmo, rfl⟩
  · unfold ownSs
    rw [List.length_set]
    exact (sei w0 _ (ownLs a1 c1 ms :: tsA ms :: shA ts :: own 64 1 a2 ts.length c2 (shc (ts.set k ⟨a1, c1, ms⟩)) :: ownTs b1 d1 Q2 :: L)).trans (((se_shA_set ts hkt ⟨a1, c1, ms⟩ _).ent w0).trans (sei w0 _ _))
  · rw [List.length_set]
  · rw [shl_set, hms, hts]
end Go.Proofs.YtcpndfffdbogbaaDoor
