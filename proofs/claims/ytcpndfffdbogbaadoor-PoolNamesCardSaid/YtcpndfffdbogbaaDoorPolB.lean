/-
  Pools: how great one is, how many transactions it has, twins, whether two are the same.
-/
import Derived.Test.YtcpndfffdbogbaaDoorPolA
set_option linter.unusedVariables false
set_option linter.unusedSimpArgs false
namespace Go.Proofs.YtcpndfffdbogbaaDoor
open Go Go.RowKit
set_option linter.unusedVariables false
set_option linter.unusedSimpArgs false
open Classical

theorem cntS_take {ss : List Sh} {i : Nat} (hi : i < ss.length) : ((ss.take (i + 1)).map fun s => cntL s.ls).sum = ((ss.take i).map fun s => cntL s.ls).sum + cntL ss[i].ls := by
  rw [List.take_succ_eq_append_getElem hi, List.map_append, List.sum_append]
  simp only [List.map_cons, List.map_nil, List.sum_cons, List.sum_nil, Nat.add_zero]
def cntS (ss : List Sh) : Nat := (ss.map fun s => cntL s.ls).sum
/-- Few enough that their count is no overflow. -/
theorem cntS_le {ss : List Sh} (h : SsOk ss) (hl : ss.length ≤ 10) (h6 : ∀ s ∈ ss, cntL s.ls ≤ 1000000000000) : ∀ i, ((ss.take i).map fun s => cntL s.ls).sum ≤ 10000000000000 := by
  intro i
  have key : ∀ l : List Sh, (∀ s ∈ l, cntL s.ls ≤ 1000000000000) → (l.map fun s => cntL s.ls).sum ≤ l.length * 1000000000000 := by
    intro l
    induction l with
    | nil => intro _; simp
    | cons x l ih =>
      intro hx
      have h1 := ih (fun s hs => hx s (List.mem_cons_of_mem _ hs))
      have h2 := hx x (by simp)
      simp only [List.map_cons, List.sum_cons, List.length_cons]
      omega
  have := key (ss.take i) (fun s hs => h6 s (List.mem_of_mem_take hs))
  have hle : (ss.take i).length ≤ 10 := by rw [List.length_take]; omega
  omega
set_option maxRecDepth 100000 in
set_option maxHeartbeats 1000000 in
theorem pcount_vc (w0 : World) (L : List Asn) (a : Option Addr) (c : Nat) (ss : List Sh) {n : Nat} (hn : n = ss.length) (h : SsOk ss) (hl : ss.length ≤ 10) [hr : RdC w0 L a (shc ss)] [hv : RdSs w0 L ss] :
    VC Tryd.prog w0 13 [.slice a n c] L fun v L' => v = .int .i64 (cntS ss) ∧ L' = L := by
  subst hn
  have hlen := h.len
  have hb := cntS_le h hl (fun s hs => Nat.le_trans (cntL_le (h.ok s hs)) (by have := (h.ok s hs).len; omega))
  refine vc_ent ?_
  refine vc_in rfl rfl ?_
  repeat' (first | (refine go1 ?_; intros) | (refine goCC ?_ ?_ <;> (intro hb; (try simp only [hSQ] at hb); try (exfalso; omega))) | fail)
  refine v_loopS (Nat × Nat) [5, 6] rfl (fun x => [(7, .int .i64 x.1), (2, .int .i64 x.2)]) (fun x => x.1 ≤ ss.length ∧ x.2 = ((ss.take x.1).map fun s => cntL s.ls).sum) (fun x => ss.length - x.1) (0, 0) ⟨Nat.zero_le _, rfl⟩ (by (repeat' (first | exact Sub.nil _ | refine Sub.cons rfl rfl ?_ | refine Sub.cons rfl ?_ ?_))) ?_
  rintro ⟨i, k⟩ ⟨hi, hk⟩
  dsimp only at hi hk ⊢
  by_cases hlt : i < ss.length
  · have e' := shs_e1 i hlt
    have hpos := h.pos i hlt
    haveI := hv.at i hlt
    haveI := hv.at2 i hlt
    have hst := cntS_take hlt
    have hb2 := hb (i + 1)
    rw [hst] at hb2
    rw [← hk] at hst hb2
    have sok := h.at i hlt
    repeat' (first | (refine go1 ?_; intros) | (refine goCC ?_ ?_ <;> (intro hb; (try simp only [hSQ] at hb); try (exfalso; omega))) | fail)
    refine vl_o rfl (vo_call rfl rfl ?_)
    refine vc_mono (scount_vc w0 _ ss[i].a ss[i].c ss[i].ls rfl sok) ?_
    rintro v L' ⟨rfl, rfl⟩
    repeat' (first | (refine go1 ?_; intros) | (refine goCC ?_ ?_ <;> (intro hb; (try simp only [hSQ] at hb); try (exfalso; omega))) | fail)
    refine ⟨rfl, (i + 1, k + cntL ss[i].ls), ⟨by dsimp only; omega, by dsimp only; omega⟩, by dsimp only; omega, ?_, sei _ _ _⟩
    (repeat' (first | exact Sub.nil _ | refine Sub.cons rfl rfl ?_ | refine Sub.cons rfl ?_ ?_))
  · obtain rfl : i = ss.length := by omega
    rw [List.take_length] at hk
    repeat' (first | (refine go1 ?_; intros) | (refine goCC ?_ ?_ <;> (intro hb; (try simp only [hSQ] at hb); try (exfalso; omega))) | fail)
    exact ⟨L, sei _ _ _, by rw [hk]; rfl, rfl⟩
/-! ### Twins -/
theorem shl_snoc {ss ts : List Sh} {i : Nat} (hi : i < ss.length) (hp : shl ts = (shl ss).take i) (s : Sh) (hs : lls s.ls = lls ss[i].ls) : shl (ts ++ [s]) = (shl ss).take (i + 1) := by
  show List.map _ (ts ++ [s]) = _
  rw [List.map_append, show List.map (fun s : Sh => lls s.ls) ts = shl ts from rfl, hp, List.take_succ_eq_append_getElem (by simpa using hi), List.getElem_map]
  simp [hs]
set_option maxRecDepth 100000 in
set_option maxHeartbeats 1000000 in
theorem ptwin21_vc (w0 : World) (L : List Asn) (a : Option Addr) (c : Nat) (ss : List Sh) {n : Nat} (hn : n = ss.length) (h : SsOk ss) [hr : RdC w0 L a (shc ss)] [hv : RdSs w0 L ss] :
    VC Tryd.prog w0 36 [.slice a n c] L (RPo L ss) := by
  subst hn
  have hlen := h.len
  refine vc_ent ?_
  refine vc_in rfl rfl ?_
  repeat' (first | (refine go1 ?_; intros) | (refine goCC ?_ ?_ <;> (intro hb; (try simp only [hSQ] at hb); try (exfalso; omega))) | fail)
  refine v_loopF (List Sh × Option Addr × Nat) [6, 7] rfl (fun x => [(8, .int .i64 x.1.length), (3, .slice x.2.1 x.1.length x.2.2)]) (fun _ x => ownSs x.2.1 x.2.2 x.1 :: shA x.1 :: L) (fun x => x.1.length ≤ ss.length ∧ shl x.1 = (shl ss).take x.1.length) (fun x => ss.length - x.1.length) ([], none, 0) ⟨Nat.zero_le _, by simp⟩ (by (repeat' (first | exact Sub.nil _ | refine Sub.cons rfl rfl ?_ | refine Sub.cons rfl ?_ ?_))) ((se_ss_nil L).ent w0) ?_
  rintro ⟨ts, a', c'⟩ ⟨hi, hp⟩
  dsimp only at hi hp ⊢
  obtain ⟨i, hni⟩ : ∃ i, i = ts.length := ⟨_, rfl⟩
  rw [← hni] at hi hp
  by_cases hlt : i < ss.length
  · rw [show ownSs a' c' ts = own 64 1 a' i c' (shc ts) by rw [hni], ← hni]
    have e' := shs_e1 i hlt
    have hpos := h.pos i hlt
    haveI := hv.at i hlt
    haveI := hv.at2 i hlt
    have sok := h.at i hlt
    have htl : (shc ts).length = i := by rw [shs_len, hni]
    repeat' (first | (refine go1 ?_; intros) | (refine goCC ?_ ?_ <;> (intro hb; (try simp only [hSQ] at hb); try (exfalso; omega))) | fail)
    refine vl_o rfl (vo_call rfl rfl ?_)
    refine vc_mono (stwin_vc w0 _ ss[i].a ss[i].c ss[i].ls rfl sok) ?_
    rintro v L' ⟨a2, c2, ms, rfl, hms, rfl⟩
    repeat' (first | (refine go1 ?_; intros) | (refine goCC ?_ ?_ <;> (intro hb; (try simp only [hSQ] at hb); try (exfalso; omega))) | fail)
    rename_i g0 g a3 c3 _ _
    refine ⟨rfl, (ts ++ [⟨a2, c2, ms⟩], a3, c3), ⟨by simp; omega, ?_⟩, by simp; omega, ?_, ?_⟩
    · simp only [List.length_append, List.length_cons, List.length_nil, ← hni, Nat.zero_add]
      exact shl_snoc hlt hp ⟨a2, c2, ms⟩ hms
    · simp only [List.length_append, List.length_cons, List.length_nil, ← hni, Nat.zero_add]
      (repeat' (first | exact Sub.nil _ | refine Sub.cons rfl rfl ?_ | refine Sub.cons rfl ?_ ?_))
    · rw [ownSs_snoc, ← hni]
      simp only [List.append_nil]
      refine (sei w0 _ (ownLs a2 c2 ms :: tsA ms :: shA ts :: own 64 1 a3 (i + 1) c3 (shc ts ++ [.slice a2 ms.length c2]) :: L)).trans (((se_shA_snoc ts _ ⟨a2, c2, ms⟩).ent w0).trans ((se_swap _ _ _).ent w0))
  · have hin : i = ss.length := by omega
    repeat' (first | (refine go1 ?_; intros) | (refine goCC ?_ ?_ <;> (intro hb; (try simp only [hSQ] at hb); try (exfalso; omega))) | fail)
    exact ⟨_, Ent.refl _ _, a', c', ts, by rw [← hni, hin], by rw [hp, List.take_of_length_le (by simp; omega)], rfl⟩
/-! ### Whether two are the same -/
end Go.Proofs.YtcpndfffdbogbaaDoor
