/-
  A request's bytes, by the program.
-/
import Derived.Test.YtcpcbgfnglnkcaaDoorWirG
import Derived.Test.YtcpcbgfnglnkcaaDoorWirI
set_option linter.unusedVariables false
set_option linter.unusedSimpArgs false
set_option linter.unusedSectionVars false

namespace Go.Proofs.YtcpcbgfnglnkcaaDoor
open Go Go.RowKit
open Classical

theorem readA_ok (b : List UInt8) : (readA b).1.ok := by
  cases b with
  | nil => exact zA_ok
  | cons k t =>
    rw [readA]
    split
    · exact zA_ok
    split
    · exact rawA_ok k t
    · exact zA_ok
/-- What may be: its parts' bytes are its bytes. -/
theorem putB_of {a : Ask} (hm : mayA a = true) {H S : Nat} (hH : a.height = H) (hS : a.sub = S) : a.kind :: putB H S a (ptsOf a.kind) = ofA a := by
  obtain ⟨r1, r2, r3, r4⟩ := mayA_rng hm
  unfold ofA ptsOf
  congr 1
  by_cases k1 : a.kind.toNat = 1
  · rw [if_pos k1, if_pos k1]; simp [putB, Pt.bytes]
  rw [if_neg k1, if_neg k1]
  by_cases k2 : a.kind.toNat = 2 ∨ a.kind.toNat = 3
  · rw [if_pos k2, if_pos k2]; simp [putB, Pt.bytes]
  rw [if_neg k2, if_neg k2]
  by_cases k4 : a.kind.toNat = 4
  · rw [if_pos k4, if_pos k4, hH, Int.toNat_natCast]; simp [putB, Pt.bytes]
  rw [if_neg k4, if_neg k4]
  by_cases k7 : a.kind.toNat = 7 ∨ a.kind.toNat = 8
  · rw [if_pos k7, if_pos k7, hS, Int.toNat_natCast]
    have : S < 4294967296 := by omega
    simp [putB, Pt.bytes, this]
  · rw [if_neg k7, if_neg k7]; rfl
theorem putB_len {a : Ask} (h : a.ok) (H S : Nat) (k : UInt8) : (putB H S a (ptsOf k)).length ≤ 200 := by
  have ht := h.tx
  have hk := h.key
  have e1 : (txBytes a.tx).length = 120 := by simp [txBytes, txBody, digs_length, ht.pub, ht.to, ht.sign]
  unfold ptsOf
  split
  · simp [putB, Pt.bytes, e1]
  split
  · simp [putB, Pt.bytes, hk]
  split
  · simp [putB, Pt.bytes, digs_length, hk]
  split
  · simp only [putB, Pt.bytes, List.flatMap_cons, List.flatMap_nil, List.append_nil]
    split <;> simp [digs_length]
  · simp [putB]
set_option maxRecDepth 100000 in
set_option maxHeartbeats 4000000 in
theorem waskAsk_vc (w0 : World) (L : List Asn) [hK : RdA w0 (some ⟨1, 0, none⟩) (wds K64)] (a : Ask) (h : a.ok) :
    VC Tryd.prog w0 10 [.agg a.cells.toArray] L fun v L' => ∃ a' c', v = .tuple #[.slice a' (if mayA a = true then ofA a else []).length c', .int .i64 (if mayA a = true then 0 else 8)] ∧ L' = ownB a' c' (if mayA a = true then ofA a else []) :: L := by
  have hcl := Ask.len h
  have f0 := Ask.f0 h
  have f3 := Ask.f3 h
  have f4 := Ask.f4 h
  haveI hoc : OC a.cells := oc_ask _
  have hbad : mayA a = false → ∀ M, SE M L → ∃ L'', Ent w0 M L'' ∧ ∃ a' c', Value.tuple #[.slice none 0 0, .int .i64 8] = .tuple #[.slice a' (if mayA a = true then ofA a else []).length c', .int .i64 (if mayA a = true then 0 else 8)] ∧ L'' = ownB a' c' (if mayA a = true then ofA a else []) :: L := fun hm M hM => by
    rw [hm]
    exact ⟨ownB none 0 [] :: L, (hM.trans (se_own_nil 5 1 L)).ent w0, none, 0, rfl, rfl⟩
  refine vc_ent ?_
  refine vc_in rfl rfl ?_
  repeat' (first | (refine go1 ?_; intros) | (refine goCC ?_ ?_ <;> (intro hb; (try simp only [hSQ] at hb); try (exfalso; omega))) | fail)
  refine clV ?_
  rename_i g1 g4
  refine vc_mono (wasks_vc w0 _ g4 a h) ?_
  rintro v L' ⟨ap, cp, gp, rfl, rfl⟩
  have hppl := ptsOf_len a.kind
  cases hok : okK a.kind
  · have hm : mayA a = false := decide_eq_false (fun e => by rw [e.1] at hok; cases hok)
    repeat' (first | (refine go1 ?_; intros) | (refine goCC ?_ ?_ <;> (intro hb; (try simp only [hSQ] at hb); try (exfalso; omega))) | fail)
    exact hbad hm _ SEI.out
  by_cases hneg : a.height < 0 ∨ a.sub < 0
  · have hm : mayA a = false := decide_eq_false (fun e => by have := e.2.2.2; unfold rngA at this; omega)
    repeat' (first | (refine go1 ?_; intros) | (refine goCC ?_ ?_ <;> (intro hb; (try simp only [hSQ] at hb); try (exfalso; omega))) | fail)
    all_goals first | (exfalso; omega) | exact hbad hm _ SEI.out
  obtain ⟨H, hH⟩ : ∃ H : Nat, a.height = H := ⟨a.height.toNat, by omega⟩
  obtain ⟨S, hS⟩ : ∃ S : Nat, a.sub = S := ⟨a.sub.toNat, by omega⟩
  have hput := fun hm => putB_of (a := a) hm hH hS
  have hbl := putB_len h H S a.kind
  unfold askM
  repeat' (first | (refine go1 ?_; intros) | (refine goCC ?_ ?_ <;> (intro hb; (try simp only [hSQ] at hb); try (exfalso; omega))) | fail)
  all_goals first | (exfalso; omega) | skip
  refine clV ?_
  rename_i g7
  refine vc_mono (wput_vc w0 (blk g1 55 a.cells :: L) (some ⟨g7, 0, none⟩) 1 [a.kind] ap cp g4 gp (ptsOf a.kind) a h H S hH hS (by simp) hppl rfl) ?_
  rintro v L' ⟨a2, c2, rfl, rfl⟩
  obtain ⟨BB, hBB⟩ : ∃ BB, BB = [a.kind] ++ putB H S a (ptsOf a.kind) := ⟨_, rfl⟩
  have hlB : BB.length ≤ 201 := by rw [hBB, List.length_append, List.length_singleton]; omega
  have hputB : mayA a = true → BB = ofA a := fun hm => by rw [hBB]; exact hput hm
  rw [← hBB]
  clear hput hbl hBB
  unfold askM
  refine vl_know (φ := BB.length ≤ c2) (fun w hs => (hs.ownLen 0 rfl).2.1) (fun hc2 => ?_)
  repeat' (first | (refine go1 ?_; intros) | (refine goCC ?_ ?_ <;> (intro hb; (try simp only [hSQ] at hb); try (exfalso; omega))) | fail)
  refine clV ?_
  refine vc_mono (wreadAsk_vc w0 _ a2 c2 BB rfl hc2 (by omega)) ?_
  rintro v L' ⟨rfl, rfl⟩
  rw [readP_eq]
  have hro := readA_ok BB
  have hmayB : ∀ x, readA BB = (x, 0) → x = a → mayA a = true ∧ BB = ofA a := fun x e1 e2 => by
    have := readA_may e1
    rw [e2] at this
    exact ⟨this.1, this.2.symm⟩
  have hnoB : mayA a = true → readA BB = (a, 0) := fun hm => by rw [hputB hm]; exact ofA_back h hm
  obtain ⟨x, E, hx⟩ : ∃ x E, readA BB = (x, E) := ⟨_, _, rfl⟩
  rw [hx] at hmayB hnoB hro ⊢
  dsimp only at hro ⊢
  have hxl := Ask.len hro
  haveI hox : OC x.cells := oc_ask _
  by_cases hE : E = 0
  · subst hE
    repeat' (first | (refine go1 ?_; intros) | (refine goCC ?_ ?_ <;> (intro hb; (try simp only [hSQ] at hb); try (exfalso; omega))) | fail)
    refine vl_q rfl rfl rfl rfl (vq_neAsk rfl rfl hro h) ?_
    by_cases hxa : x = a
    · obtain ⟨hm, hBo⟩ := hmayB x rfl hxa
      rw [decide_eq_true hxa, hm, if_pos rfl, if_pos rfl, ← hBo]
      repeat' (first | (refine go1 ?_; intros) | (refine goCC ?_ ?_ <;> (intro hb; (try simp only [hSQ] at hb); try (exfalso; omega))) | fail)
      exact ⟨_, sei _ _ (ownB a2 c2 BB :: L), a2, c2, rfl, rfl⟩
    · have hm : mayA a = false := by
        cases hmm : mayA a
        · rfl
        · exact absurd (Prod.mk.inj (hnoB hmm)).1 hxa
      rw [decide_eq_false hxa]
      repeat' (first | (refine go1 ?_; intros) | (refine goCC ?_ ?_ <;> (intro hb; (try simp only [hSQ] at hb); try (exfalso; omega))) | fail)
      exact hbad hm _ SEI.out
  · have hm : mayA a = false := by
      cases hmm : mayA a
      · rfl
      · exact absurd (Prod.mk.inj (hnoB hmm)).2 hE
    repeat' (first | (refine go1 ?_; intros) | (refine goCC ?_ ?_ <;> (intro hb; (try simp only [hSQ] at hb); try (exfalso; omega))) | fail)
    all_goals first | (exfalso; omega) | exact hbad hm _ SEI.out
end Go.Proofs.YtcpcbgfnglnkcaaDoor
