/-
  What is drawn of a shard and what goes back to it: the law.
-/
import Derived.Test.YtcpndfffdbogbaaGreatDoorGZB
import Derived.Test.YtcpndfffdbogbaaGreatDoorG8
import Derived.Test.YtcpndfffdbogbaaGreatDoorGZA
import Derived.Test.YtcpndfffdbogbaaGreatDoorTC
set_option linter.unusedVariables false
set_option linter.unusedSimpArgs false
namespace Go.Proofs.YtcpndfffdbogbaaGreatDoor
open Go Go.RowKit
set_option linter.unusedVariables false
set_option linter.unusedSimpArgs false
set_option linter.unusedSectionVars false
open Classical

theorem tsA_capW (w0 : World) (L : List Asn) (ls : List Ln) [h : HasTs L ls] (w : World) (hs : St w0 w L) : ∀ l ∈ ls, l.xs.length ≤ l.c := fun l hl => by
  obtain ⟨i, hi⟩ := h.out
  refine hs.know i hi (fun F hF => ?_)
  obtain ⟨G, h0, hG⟩ := SLs.mem (P := ownTs l.a l.c l.xs) hF (List.mem_map.2 ⟨l, hl, rfl⟩)
  rcases hG with ⟨_, e1, e2⟩ | ⟨g, off, cs, _, _, _, h1, _⟩
  · omega
  · exact h1
theorem drawQ_ts {ls : List Ln} (h : LsOk ls) (h6 : ls.length ≤ 6) (h20 : ∀ l ∈ ls, l.xs.length ≤ 20) (ns : List Nd) (r : Int) (room : Int) : TsOk (drawQ (lls ls) ns r room).2.1 := by
  unfold drawQ
  by_cases hc : MayC (lls ls) ∧ StP ns r
  rotate_left
  · rw [if_neg hc]; exact TsOk.nil
  rw [if_pos hc]
  have hd := drawC_law (f := nonceA ns r) (room := room) hc.1
  have hl := drawC_len (nonceA ns r) room (lls ls) ([], [])
  rw [show (lls ls).foldl (drawS (nonceA ns r) room) ([], []) = drawC (nonceA ns r) room (lls ls) from rfl] at hl
  have h120 : cntC (lls ls) ≤ (lls ls).length * 20 := cntC_le20 (fun c hc => by
    obtain ⟨l, hl, rfl⟩ := List.mem_map.1 hc
    exact h20 l hl)
  rw [List.length_map] at h120
  simp only [List.length_nil, Nat.zero_add] at hl
  refine ⟨fun x hx => ?_, by dsimp only; omega⟩
  obtain ⟨i, hi, rfl⟩ := List.getElem_of_mem hx
  obtain ⟨⟨c, hc, e1, e2, _⟩, _⟩ := hd.from' i hi
  obtain ⟨l, hl, rfl⟩ := List.mem_map.1 hc
  exact (h.ok l hl).ts.ok _ e2
set_option maxRecDepth 100000 in
set_option maxHeartbeats 8000000 in
theorem shardDraws_vc (w0 : World) (a : Option Addr) (c : Nat) (ls : List Ln) (b : Option Addr) (d : Nat) (ns : List Nd) (r : Int) (room : Int) (e : Option Addr) (g : Nat) (xs : List Tx) (hw : ∀ p ∈ ls, p.own.length = 32 ∧ (∀ x ∈ p.xs, x.ok) ∧ p.xs.length ≤ 9223372036854775807) (hll : ls.length ≤ 9223372036854775807) (hcaps : ∀ p ∈ ls, p.xs.length ≤ p.c) (hkey : ∀ p ∈ ns, p.key.length = 32) (hnl : ns.length ≤ 9223372036854775807) (hro : -9223372036854775808 ≤ room ∧ room < 9223372036854775808) {en : Nat} (hen : en = xs.length) (hx : ∀ x ∈ xs, x.ok) (hxl : xs.length ≤ 9223372036854775807) [hK : RdA w0 (some ⟨0, 0, none⟩) (wds K64)] [hr : RdA w0 a (lnc ls)] [hv : RdLs w0 [] ls] [gr : RdA w0 b (ndc ns)] [gv : RdNs w0 [] ns] [er : RdA w0 e (txc xs)] :
    VC Tryz.prog w0 3 [.agg #[.slice a ls.length c], .agg #[.slice b ns.length d, .int .i64 r], .int .i64 room, .slice e en g] [] fun u L' => u = .bool true := by
  subst hen
  refine vc_in rfl rfl ?_
  repeat' (first | (refine go1 ?_; intros) | (refine goCC ?_ ?_ <;> (intro hb; (try simp only [hSQ] at hb); try (exfalso; omega))) | fail)
  refine vl_o rfl (vo_call rfl rfl ?_)
  refine vc_mono (great20_vc w0 _ a c ls rfl (fun p hp => ⟨(hw p hp).1, (hw p hp).2.2⟩) hll) ?_
  rintro u L' ⟨b1, rfl, hb6, rfl⟩
  cases b1
  rotate_left
  · repeat' (first | (refine go1 ?_; intros) | (refine goCC ?_ ?_ <;> (intro hb; (try simp only [hSQ] at hb); try (exfalso; omega))) | fail)
    exact rfl
  have h := LsOk.of0 hw (hb6 rfl)
  have h6 := (hb6 rfl).1
  repeat' (first | (refine go1 ?_; intros) | (refine goCC ?_ ?_ <;> (intro hb; (try simp only [hSQ] at hb); try (exfalso; omega))) | fail)
  refine vl_o rfl (vo_call rfl rfl ?_)
  refine vc_mono (great6_vc w0 _ b d ns r 600 rfl (by decide) hkey hnl) ?_
  rintro u L' ⟨b2, rfl, gg, rfl⟩
  cases b2
  rotate_left
  · repeat' (first | (refine go1 ?_; intros) | (refine goCC ?_ ?_ <;> (intro hb; (try simp only [hSQ] at hb); try (exfalso; omega))) | fail)
    exact rfl
  obtain ⟨hg1, hg2⟩ := gg rfl
  have hok : NsOk ns := ⟨hkey, fun p hp => by have := hg2 p hp; omega, by omega⟩
  by_cases h10 : xs.length ≤ 10
  rotate_left
  · repeat' (first | (refine go1 ?_; intros) | (refine goCC ?_ ?_ <;> (intro hb; (try simp only [hSQ] at hb); try (exfalso; omega))) | fail)
    all_goals first | (exfalso; omega) | exact rfl
  have hxs : TsOk xs := ⟨hx, by omega⟩
  repeat' (first | (refine go1 ?_; intros) | (refine goCC ?_ ?_ <;> (intro hb; (try simp only [hSQ] at hb); try (exfalso; omega))) | fail)
  all_goals first | (exfalso; omega) | skip
  refine vl_o rfl (vo_call rfl rfl ?_)
  refine vc_mono (rtwin20_vc w0 _ a c ls rfl h) ?_
  rintro u L' ⟨a0, c0, ms, rfl, hms, rfl⟩
  have hmo := h.of_lls hms
  have hml := lls_len hms
  have hm20 : ∀ l ∈ ms, l.xs.length ≤ 20 := fun l hl => by
    have : l.pl ∈ lls ls := by rw [← hms]; exact List.mem_map.2 ⟨l, hl, rfl⟩
    obtain ⟨k, hk, e⟩ := List.mem_map.1 this
    rw [show l.xs = k.xs from (congrArg Prod.snd e).symm]
    exact (hb6 rfl).2 k hk
  refine vl_know (φ := ∀ l ∈ ms, l.xs.length ≤ l.c) (fun w hs => tsA_capW w0 _ ms w hs) (fun hmc => ?_)
  repeat' (first | (refine go1 ?_; intros) | (refine goCC ?_ ?_ <;> (intro hb; (try simp only [hSQ] at hb); try (exfalso; omega))) | fail)
  refine vl_o rfl (vo_call rfl rfl ?_)
  refine vc_mono (sdraw_vc w0 _ a0 c0 ms b d ns r room rfl rfl hmo (by omega) hm20 hmc hok hro) ?_
  rw [hms]
  rintro u L' ⟨a1, c1, m1, b1, d1, rfl, h1, k1, rfl⟩
  repeat' (first | (refine go1 ?_; intros) | (refine goCC ?_ ?_ <;> (intro hb; (try simp only [hSQ] at hb); try (exfalso; omega))) | fail)
  refine vl_o rfl (vo_call rfl rfl ?_)
  refine vc_mono (rdraw20_vc w0 _ a c ls b d ns r room rfl rfl h h6 (hb6 rfl).2 hok) ?_
  rintro u L' ⟨a2, c2, m2, b2, d2, rfl, h2, k2, rfl⟩
  have hgo := drawQ_ts h h6 (hb6 rfl).2 ns r room
  have h12 : lls m1 = lls m2 := h1.trans h2.symm
  generalize (drawQ (lls ls) ns r room).2.1 = dr at *
  generalize (drawQ (lls ls) ns r room).2.2 = E at *
  repeat' (first | (refine go1 ?_; intros) | (refine goCC ?_ ?_ <;> (intro hb; (try simp only [hSQ] at hb); try (exfalso; omega))) | fail)
  refine vl_o rfl (vo_call rfl rfl ?_)
  refine vc_mono (sback_vc w0 _ a0 c0 ms b d ns r e g xs rfl rfl rfl hmo (by omega) hok hxs (by omega)) ?_
  rw [hms]
  rintro u L' ⟨a3, c3, m3, rfl, h3, k3, rfl⟩
  repeat' (first | (refine go1 ?_; intros) | (refine goCC ?_ ?_ <;> (intro hb; (try simp only [hSQ] at hb); try (exfalso; omega))) | fail)
  refine vl_o rfl (vo_call rfl rfl ?_)
  refine vc_mono (rback20_vc w0 _ a c ls b d ns r e g xs rfl rfl rfl h (by omega) hok hxs (by omega)) ?_
  rintro u L' ⟨a4, c4, m4, rfl, h4, k4, rfl⟩
  have h34 : lls m3 = lls m4 := h3.trans h4.symm
  generalize (backQ (lls ls) ns r xs).2 = E2 at *
  repeat' (first | (refine go1 ?_; intros) | (refine goCC ?_ ?_ <;> (intro hb; (try simp only [hSQ] at hb); try (exfalso; omega))) | fail)
  refine vl_o rfl (vo_call rfl rfl ?_)
  refine vc_mono (rsame20_vc w0 _ a1 c1 m1 a2 c2 m2 rfl rfl k1 k2) ?_
  rintro u L' ⟨rfl, rfl⟩
  rw [decide_eq_true h12]
  repeat' (first | (refine go1 ?_; intros) | (refine goCC ?_ ?_ <;> (intro hb; (try simp only [hSQ] at hb); try (exfalso; omega))) | fail)
  refine vl_o rfl (vo_call rfl rfl ?_)
  refine vc_mono (rsameTs_vc w0 _ b1 d1 dr b2 d2 dr rfl rfl hgo hgo) ?_
  rintro u L' ⟨rfl, rfl⟩
  rw [decide_eq_true rfl]
  repeat' (first | (refine go1 ?_; intros) | (refine goCC ?_ ?_ <;> (intro hb; (try simp only [hSQ] at hb); try (exfalso; omega))) | fail)
  all_goals first | (exfalso; omega) | skip
  refine vl_o rfl (vo_call rfl rfl ?_)
  refine vc_mono (rsame20_vc w0 _ a3 c3 m3 a4 c4 m4 rfl rfl k3 k4) ?_
  rintro u L' ⟨rfl, rfl⟩
  rw [decide_eq_true h34]
  repeat' (first | (refine go1 ?_; intros) | (refine goCC ?_ ?_ <;> (intro hb; (try simp only [hSQ] at hb); try (exfalso; omega))) | fail)
  all_goals first | (exfalso; omega) | skip
  rename_i g4 g5 _ g9 g10 g13 g16 g18
  refine vl_o rfl (vo_call rfl rfl ?_)
  refine vc_pre (L2 := ownLs a1 c1 m1 :: tsA m1 :: blk g16 24 [.slice a3 m3.length c3] :: ownLs a3 c3 m3 :: tsA m3 :: blk g9 24 [.slice a0 ms.length c0] :: ownLs a0 c0 ms :: tsA ms :: blk g4 24 [.slice a ls.length c] :: []) (sei w0 _ _) ?_
  refine vc_mono (lspoil20_vc w0 _ a1 c1 m1 rfl k1) ?_
  rintro u L' rfl
  repeat' (first | (refine go1 ?_; intros) | (refine goCC ?_ ?_ <;> (intro hb; (try simp only [hSQ] at hb); try (exfalso; omega))) | fail)
  refine vl_o rfl (vo_call rfl rfl ?_)
  refine vc_pre (L2 := ownLs a3 c3 m3 :: tsA m3 :: blk g9 24 [.slice a0 ms.length c0] :: ownLs a0 c0 ms :: tsA ms :: blk g4 24 [.slice a ls.length c] :: []) (sei w0 _ _) ?_
  refine vc_mono (lspoil20_vc w0 _ a3 c3 m3 rfl k3) ?_
  rintro u L' rfl
  repeat' (first | (refine go1 ?_; intros) | (refine goCC ?_ ?_ <;> (intro hb; (try simp only [hSQ] at hb); try (exfalso; omega))) | fail)
  refine vl_o rfl (vo_call rfl rfl ?_)
  refine vc_mono (rsame20_vc w0 _ a0 c0 ms a c ls rfl rfl hmo h) ?_
  rintro u L' ⟨rfl, rfl⟩
  rw [decide_eq_true hms]
  repeat' (first | (refine go1 ?_; intros) | (refine goCC ?_ ?_ <;> (intro hb; (try simp only [hSQ] at hb); try (exfalso; omega))) | fail)
  exact rfl
end Go.Proofs.YtcpndfffdbogbaaGreatDoor
