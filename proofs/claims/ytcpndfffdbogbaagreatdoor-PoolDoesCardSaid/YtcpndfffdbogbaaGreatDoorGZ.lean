/-
  Lines: put. Lines: put, the program's. Lines: what the statements use: a nonce's transaction, the chapter's line, its first examples. Lines: the chapter's line and its first examples. Lines: what is answered is well made.
-/
import Derived.Test.YtcpndfffdbogbaaGreatDoorGY
set_option linter.unusedVariables false
set_option linter.unusedSimpArgs false
set_option linter.unusedSectionVars false

namespace Go.Proofs.YtcpndfffdbogbaaGreatDoor
open Go Go.RowKit
open Classical

instance oc_ln (l : Ln) : OC l.cells := (inferInstance : OC (bvs l.own ++ [.slice l.a l.xs.length l.c]))
theorem find_ge {xs : List Tx} {k : Nat} {z : Int} (h : FindR xs k z) (hu : UpT xs) : (z = -1 ∧ atT xs k = none) ∨ ∃ i, ∃ hi : i < xs.length, z = (i : Int) ∧ (xs[i]).nonce = k ∧ atT xs k = some xs[i] := by
  rcases h.at hu with ⟨e, _, h⟩ | h
  · exact .inl ⟨e, h⟩
  · exact .inr h
theorem ownTs_one (g : Nat) (x : Tx) : ownTs (some ⟨g, 0, none⟩) 1 [x] = own 50 99 (some ⟨g, 0, none⟩) 1 1 (x.cells ++ []) := by
  unfold ownTs
  rw [flat_one, List.append_nil]
  rfl
end Go.Proofs.YtcpndfffdbogbaaGreatDoor
namespace Go.Proofs.YtcpndfffdbogbaaGreatDoor
open Go Go.RowKit
open Classical

set_option maxRecDepth 100000 in
set_option maxHeartbeats 2000000 in
theorem qput_vc (w0 : World) (L : List Asn) (l : Ln) (h : l.ok) (x : Tx) (hx : x.ok) [hK : RdA w0 (some ⟨0, 0, none⟩) (wds K64)] [hr : RdC w0 L l.a (txc l.xs)] :
    VC Tryz.prog w0 44 [.agg l.cells.toArray, .agg x.cells.toArray] L (RLn L (putT l x)) := by
  have f0 := Ln.f0 h.own
  have f1 := Ln.f1 h.own
  have ho := h.own
  have hcl := Ln.len h.own
  have hlen := h.ts.len
  have hxl := Tx.len hx
  have hx2 := Tx.f2 hx
  have hx4 := Tx.f4 hx
  have hxn := hx.nonce
  refine vc_ent ?_
  refine vc_in rfl rfl ?_
  generalize hcs : l.cells = cs at *
  repeat' (first | (refine go1 ?_; intros) | (refine goCC ?_ ?_ <;> (intro hb; (try simp only [hSQ] at hb); try (exfalso; omega))) | fail)
  refine clV ?_
  rw [← hcs]
  refine vc_mono (qcheck_vc w0 _ l h) ?_
  rintro v L' ⟨rfl, rfl⟩
  rw [hcs]
  unfold putT
  by_cases hm : l.may = true
  rotate_left
  · rw [if_neg hm, if_neg hm]
    repeat' (first | (refine go1 ?_; intros) | (refine goCC ?_ ?_ <;> (intro hb; (try simp only [hSQ] at hb); try (exfalso; omega))) | fail)
    exact ⟨_, ((se_drop _ _).trans ((se_drop _ _).trans ((se_drop _ _).trans ((se_own_nil _ 99 _).trans (se_own_nil _ 99 _))))).ent w0, none, 0, none, 0, rfl, rfl⟩
  rw [if_pos hm, if_pos hm]
  have hup := Ln.may_up hm
  have hm256 := (Ln.may_iff.1 hm).1
  repeat' (first | (refine go1 ?_; intros) | (refine goCC ?_ ?_ <;> (intro hb; (try simp only [hSQ] at hb); try (exfalso; omega))) | fail)
  refine clV ?_
  refine vc_mono (qown_vc w0 _ x hx l.own ho) ?_
  rintro v L' ⟨rfl, rfl⟩
  by_cases hown : ownT x l.own = true
  rotate_left
  · rw [if_neg hown]
    simp only [Bool.not_eq_true] at hown
    rw [hown]
    repeat' (first | (refine go1 ?_; intros) | (refine goCC ?_ ?_ <;> (intro hb; (try simp only [hSQ] at hb); try (exfalso; omega))) | fail)
    exact ⟨_, ((se_drop _ _).trans ((se_drop _ _).trans ((se_drop _ _).trans ((se_own_nil _ 99 _).trans (se_own_nil _ 99 _))))).ent w0, none, 0, none, 0, rfl, rfl⟩
  rw [if_pos hown, hown]
  repeat' (first | (refine go1 ?_; intros) | (refine goCC ?_ ?_ <;> (intro hb; (try simp only [hSQ] at hb); try (exfalso; omega))) | fail)
  refine v_draw0 [] (by kernel_rfl) ?_
  refine tA 0 ?_
  refine tA 2 ?_
  refine tA 3 ?_
  refine va_one 1 (by kernel_rfl) rfl rfl ?_
  first | refine vo_call rfl rfl ?_ | refine vo_callV rfl rfl rfl ?_
  rw [← hcs]
  refine vc_mono (nonces_vc w0 _ l h.own) ?_
  rintro v L' ⟨rfl, rfl⟩
  rw [hcs]
  refine ⟨.inr (sei _ _ _), ?_⟩
  refine va_one 4 (by kernel_rfl) rfl rfl ?_
  first | refine vo_call rfl rfl ?_ | refine vo_callV rfl rfl rfl ?_
  refine vc_mono (ahead19_vc w0 _ l.a l.c l.xs rfl h.ts hup x.nonce) ?_
  rintro v L' ⟨m, rfl, hm1, hm2, hm3, rfl⟩
  refine ⟨.inr (sei _ _ _), ?_⟩
  refine tA 5 ?_
  refine va_done (by kernel_rfl) ?_
  skip
  have hp : Part l.xs x.nonce m := ⟨hm1, hm2, hm3⟩
  repeat' (first | (refine go1 ?_; intros) | (refine goCC ?_ ?_ <;> (intro hb; (try simp only [hSQ] at hb); try (exfalso; omega))) | fail)
  refine clV ?_
  rw [← hcs]
  refine vc_mono (qtwinL_vc w0 _ l h) ?_
  rintro v L' ⟨a, c, rfl, rfl⟩
  rw [hcs]
  have hwc := Ln.len (l := Ln.mk l.own a c l.xs) ho
  have hw1 : (Ln.mk l.own a c l.xs).cells[0 + 32]? = some (.slice a l.xs.length c) := Ln.f1 (l := Ln.mk l.own a c l.xs) ho
  by_cases hat : ∃ hm : m < l.xs.length, (l.xs[m]).nonce = x.nonce
  · obtain ⟨hi, hn⟩ := hat
    rw [atT_some hup hi hn]
    dsimp only
    have el := h.ts.el m hi
    have e2 := h.ts.e2 m hi
    have e4 := h.ts.e4 m hi
    have yok := h.ts.at m hi
    have hyl := Tx.len yok
    have hpos := h.ts.pos m hi
    have hwith := hp.with1 hup hi hn
    rw [hn] at e2
    repeat' (first | (refine go1 ?_; intros) | (refine goCC ?_ ?_ <;> (intro hb; (try simp only [hSQ] at hb); try (exfalso; omega))) | fail)
    (refine v_draw0 [] (by kernel_rfl) ?_ <;> (refine tA 0 ?_) <;> (refine tA 1 ?_) <;> (refine tA 2 ?_) <;> (refine tA 3 ?_) <;> (refine va_take 4 rfl rfl rfl rfl (by kernel_rfl) (fun _ _ _ _ h => h) entD (by exact qX1) ?_) <;> (refine tA 5 ?_) <;> (first | refine tG 6 ?_ | refine pG 6 ?_ | (refine va_caseG 6 rfl rfl rfl rfl rfl ?_ ?_ <;> (intro hb; (try simp only [hSQ] at hb); try (exfalso; omega)) <;> first | refine tG 6 ?_ | refine pG 6 ?_)) <;> (first | refine tG 7 ?_ | refine pG 7 ?_ | (refine va_caseG 7 rfl rfl rfl rfl rfl ?_ ?_ <;> (intro hb; (try simp only [hSQ] at hb); try (exfalso; omega)) <;> first | refine tG 7 ?_ | refine pG 7 ?_)) <;> (first | refine tG 8 ?_ | refine pG 8 ?_ | (refine va_caseG 8 rfl rfl rfl rfl rfl ?_ ?_ <;> (intro hb; (try simp only [hSQ] at hb); try (exfalso; omega)) <;> first | refine tG 8 ?_ | refine pG 8 ?_)) <;> (first | refine tG 9 ?_ | refine pG 9 ?_ | (refine va_caseG 9 rfl rfl rfl rfl rfl ?_ ?_ <;> (intro hb; (try simp only [hSQ] at hb); try (exfalso; omega)) <;> first | refine tG 9 ?_ | refine pG 9 ?_)) <;> (first | refine tG 10 ?_ | refine pG 10 ?_ | (refine va_caseG 10 rfl rfl rfl rfl rfl ?_ ?_ <;> (intro hb; (try simp only [hSQ] at hb); try (exfalso; omega)) <;> first | refine tG 10 ?_ | refine pG 10 ?_)) <;> (first | refine tG 11 ?_ | refine pG 11 ?_ | (refine va_caseG 11 rfl rfl rfl rfl rfl ?_ ?_ <;> (intro hb; (try simp only [hSQ] at hb); try (exfalso; omega)) <;> first | refine tG 11 ?_ | refine pG 11 ?_)) <;> (first | refine tG 12 ?_ | refine pG 12 ?_ | (refine va_caseG 12 rfl rfl rfl rfl rfl ?_ ?_ <;> (intro hb; (try simp only [hSQ] at hb); try (exfalso; omega)) <;> first | refine tG 12 ?_ | refine pG 12 ?_)) <;> (first | refine tG 13 ?_ | refine pG 13 ?_ | (refine va_caseG 13 rfl rfl rfl rfl rfl ?_ ?_ <;> (intro hb; (try simp only [hSQ] at hb); try (exfalso; omega)) <;> first | refine tG 13 ?_ | refine pG 13 ?_)) <;> (first | refine va_takeG 14 rfl rfl rfl rfl rfl rfl rfl rfl (by kernel_rfl) (fun _ _ _ _ h => h) entD (by exact qX1) ?_ | refine pG 14 ?_ | (refine va_caseG 14 rfl rfl rfl rfl rfl ?_ ?_ <;> (intro hb; (try simp only [hSQ] at hb); try (exfalso; omega)) <;> first | refine va_takeG 14 rfl rfl rfl rfl rfl rfl rfl rfl (by kernel_rfl) (fun _ _ _ _ h => h) entD (by exact qX1) ?_ | refine pG 14 ?_)) <;> (refine tA 15 ?_) <;> (refine va_done (by kernel_rfl) ?_))
    repeat' (first | (refine go1 ?_; intros) | (refine goCC ?_ ?_ <;> (intro hb; (try simp only [hSQ] at hb); try (exfalso; omega))) | fail)
    by_cases hfee : x.fee ≤ (l.xs[m]).fee
    · rw [if_pos hfee]
      have hfee' : (x.fee : Int) ≤ ((l.xs[m]).fee : Int) := by omega
      (refine v_draw0 [] (by kernel_rfl) ?_ <;> (refine tA 0 ?_) <;> (refine tA 1 ?_) <;> (refine tA 2 ?_) <;> (refine tA 3 ?_) <;> (refine tA 4 ?_) <;> (refine tA 5 ?_) <;> (refine tA 6 ?_) <;> (refine tA 7 ?_) <;> (refine tA 8 ?_) <;> (refine va_done (by kernel_rfl) ?_))
      repeat' (first | (refine go1 ?_; intros) | (refine goCC ?_ ?_ <;> (intro hb; (try simp only [hSQ] at hb); try (exfalso; omega))) | fail)
      exact ⟨_, ((se_drop _ _).trans ((se_drop _ _).trans ((se_drop _ _).trans ((se_drop _ _).trans ((se_own_nil _ 99 _).trans (se_own_nil _ 99 _)))))).ent w0, none, 0, none, 0, rfl, rfl⟩
    · rw [if_neg hfee]
      have hfee' : ¬ (x.fee : Int) ≤ ((l.xs[m]).fee : Int) := by omega
      (refine v_draw0 [] (by kernel_rfl) ?_ <;> (refine tA 0 ?_) <;> (refine tA 1 ?_) <;> (refine tA 2 ?_) <;> (refine tA 3 ?_) <;> (refine tA 4 ?_) <;> (refine tA 5 ?_) <;> (refine tA 6 ?_) <;> (refine tA 7 ?_) <;> (refine tA 8 ?_) <;> (refine va_done (by kernel_rfl) ?_))
      repeat' (first | (refine go1 ?_; intros) | (refine goCC ?_ ?_ <;> (intro hb; (try simp only [hSQ] at hb); try (exfalso; omega))) | fail)
      refine vl_o rfl (vo_stO (vs := x.cells) (xs' := flat Tx.cells (l.xs.set m x)) rfl rfl rfl hxl (by rw [hxl]; exact h.ts.wide.mul m hi) (h.ts.wide.spl hxl m hi) ?_)
      repeat' (first | (refine go1 ?_; intros) | (refine goCC ?_ ?_ <;> (intro hb; (try simp only [hSQ] at hb); try (exfalso; omega))) | fail)
      refine v_draw0 [] (by kernel_rfl) ?_
      refine tA 0 ?_
      refine tA 1 ?_
      refine tA 2 ?_
      refine tA 3 ?_
      refine tA 4 ?_
      refine tA 5 ?_
      refine va_two 6 7 (by kernel_rfl) rfl rfl rfl rfl ?_ ?_
      · (refine goV ?_; intros)
        refine ⟨.inr (sei _ _ _), ?_⟩
        refine va_one 7 (by kernel_rfl) rfl rfl ?_
        (refine goV ?_; intros)
        refine ⟨.inr (sei _ _ _), ?_⟩
        refine tA 8 ?_
        refine tA 9 ?_
        refine va_done (by kernel_rfl) ?_
        repeat' (first | (refine go1 ?_; intros) | (refine goCC ?_ ?_ <;> (intro hb; (try simp only [hSQ] at hb); try (exfalso; omega))) | fail)
        rename_i gq
        refine ⟨ownTs (some ⟨gq, 0, none⟩) 1 [l.xs[m]] :: ownTs a c (withT l.xs x) :: L, ?_, a, c, some ⟨gq, 0, none⟩, 1, ?_, rfl⟩
        · rw [ownTs_one, ← hwith, ownTs, List.length_set]
          exact sei _ _ _
        · rw [← hwith]
          simp [Ln.cells]
      · (refine goV ?_; intros)
        refine ⟨.inr (sei _ _ _), ?_⟩
        refine va_one 6 (by kernel_rfl) rfl rfl ?_
        (refine goV ?_; intros)
        refine ⟨.inr (sei _ _ _), ?_⟩
        refine tA 8 ?_
        refine tA 9 ?_
        refine va_done (by kernel_rfl) ?_
        repeat' (first | (refine go1 ?_; intros) | (refine goCC ?_ ?_ <;> (intro hb; (try simp only [hSQ] at hb); try (exfalso; omega))) | fail)
        rename_i gq
        refine ⟨ownTs (some ⟨gq, 0, none⟩) 1 [l.xs[m]] :: ownTs a c (withT l.xs x) :: L, ?_, a, c, some ⟨gq, 0, none⟩, 1, ?_, rfl⟩
        · rw [ownTs_one, ← hwith, ownTs, List.length_set]
          exact sei _ _ _
        · rw [← hwith]
          simp [Ln.cells]
  · have hno := hp.none hup (fun hm e => hat ⟨hm, e⟩)
    rw [atT_none hno]
    dsimp only
    have hwith := hp.with0 hno
    by_cases hlt : m < l.xs.length
    · have el := h.ts.el m hlt
      have e2 := h.ts.e2 m hlt
      have hpos := h.ts.pos m hlt
      have hne : ((l.xs[m]).nonce : Int) ≠ (x.nonce : Int) := by have := hno m hlt; omega
      repeat' (first | (refine go1 ?_; intros) | (refine goCC ?_ ?_ <;> (intro hb; (try simp only [hSQ] at hb); try (exfalso; omega))) | fail)
      (refine v_draw0 [] (by kernel_rfl) ?_ <;> (refine tA 0 ?_) <;> (refine tA 1 ?_) <;> (refine tA 2 ?_) <;> (refine tA 3 ?_) <;> (refine tA 4 ?_) <;> (refine tA 5 ?_) <;> (first | refine tG 6 ?_ | refine pG 6 ?_ | (refine va_caseG 6 rfl rfl rfl rfl rfl ?_ ?_ <;> (intro hb; (try simp only [hSQ] at hb); try (exfalso; omega)) <;> first | refine tG 6 ?_ | refine pG 6 ?_)) <;> (first | refine tG 7 ?_ | refine pG 7 ?_ | (refine va_caseG 7 rfl rfl rfl rfl rfl ?_ ?_ <;> (intro hb; (try simp only [hSQ] at hb); try (exfalso; omega)) <;> first | refine tG 7 ?_ | refine pG 7 ?_)) <;> (first | refine tG 8 ?_ | refine pG 8 ?_ | (refine va_caseG 8 rfl rfl rfl rfl rfl ?_ ?_ <;> (intro hb; (try simp only [hSQ] at hb); try (exfalso; omega)) <;> first | refine tG 8 ?_ | refine pG 8 ?_)) <;> (first | refine tG 9 ?_ | refine pG 9 ?_ | (refine va_caseG 9 rfl rfl rfl rfl rfl ?_ ?_ <;> (intro hb; (try simp only [hSQ] at hb); try (exfalso; omega)) <;> first | refine tG 9 ?_ | refine pG 9 ?_)) <;> (first | refine tG 10 ?_ | refine pG 10 ?_ | (refine va_caseG 10 rfl rfl rfl rfl rfl ?_ ?_ <;> (intro hb; (try simp only [hSQ] at hb); try (exfalso; omega)) <;> first | refine tG 10 ?_ | refine pG 10 ?_)) <;> (first | refine tG 11 ?_ | refine pG 11 ?_ | (refine va_caseG 11 rfl rfl rfl rfl rfl ?_ ?_ <;> (intro hb; (try simp only [hSQ] at hb); try (exfalso; omega)) <;> first | refine tG 11 ?_ | refine pG 11 ?_)) <;> (first | refine tG 12 ?_ | refine pG 12 ?_ | (refine va_caseG 12 rfl rfl rfl rfl rfl ?_ ?_ <;> (intro hb; (try simp only [hSQ] at hb); try (exfalso; omega)) <;> first | refine tG 12 ?_ | refine pG 12 ?_)) <;> (first | refine tG 13 ?_ | refine pG 13 ?_ | (refine va_caseG 13 rfl rfl rfl rfl rfl ?_ ?_ <;> (intro hb; (try simp only [hSQ] at hb); try (exfalso; omega)) <;> first | refine tG 13 ?_ | refine pG 13 ?_)) <;> (first | refine tG 14 ?_ | refine pG 14 ?_ | (refine va_caseG 14 rfl rfl rfl rfl rfl ?_ ?_ <;> (intro hb; (try simp only [hSQ] at hb); try (exfalso; omega)) <;> first | refine tG 14 ?_ | refine pG 14 ?_)) <;> (refine tA 15 ?_) <;> (refine va_done (by kernel_rfl) ?_))
      repeat' (first | (refine go1 ?_; intros) | (refine goCC ?_ ?_ <;> (intro hb; (try simp only [hSQ] at hb); try (exfalso; omega))) | fail)
      · rw [if_pos (by omega)]
        exact ⟨_, ((se_drop _ _).trans ((se_drop _ _).trans ((se_drop _ _).trans ((se_drop _ _).trans ((se_own_nil _ 99 _).trans (se_own_nil _ 99 _)))))).ent w0, none, 0, none, 0, rfl, rfl⟩
      rw [if_neg (by omega)]
      refine clV ?_
      rename_i gq
      rw [List.append_nil]
      refine vc_mono (txins_vc w0 _ a c l.xs m gq x rfl hm1 h.ts.wide hxl hlen) ?_
      rintro v L' ⟨a2, c2, rfl, rfl⟩
      rw [hwith]
      repeat' (first | (refine go1 ?_; intros) | (refine goCC ?_ ?_ <;> (intro hb; (try simp only [hSQ] at hb); try (exfalso; omega))) | fail)
      have hwl : (withT l.xs x).length = l.xs.length + 1 := by rw [← hwith]; simp; omega
      have e2 : splice (Ln.mk l.own a c l.xs).cells (0 + 32) [.slice a2 (l.xs.length + 1) c2] = (Ln.mk l.own a2 c2 (withT l.xs x)).cells := by
        have := splice_mid (bvs l.own) [.slice a l.xs.length c] [] [.slice a2 (l.xs.length + 1) c2] 32 (by simp [ho]) rfl
        simpa [Ln.cells, hwl] using this
      rw [e2]
      have hwc2 := Ln.len (l := Ln.mk l.own a2 c2 (withT l.xs x)) ho
      repeat' (first | (refine go1 ?_; intros) | (refine goCC ?_ ?_ <;> (intro hb; (try simp only [hSQ] at hb); try (exfalso; omega))) | fail)
      exact ⟨_, ((se_own_nil _ 99 _).trans (SE.cons _ (SE.cons _ ((se_drop _ _).trans ((se_drop _ _).trans (se_drop _ _)))))).ent w0, a2, c2, none, 0, rfl, rfl⟩
    · repeat' (first | (refine go1 ?_; intros) | (refine goCC ?_ ?_ <;> (intro hb; (try simp only [hSQ] at hb); try (exfalso; omega))) | fail)
      (refine v_draw0 [] (by kernel_rfl) ?_ <;> (refine tA 0 ?_) <;> (refine tA 1 ?_) <;> (refine tA 2 ?_) <;> (refine tA 3 ?_) <;> (refine tA 4 ?_) <;> (refine tA 5 ?_) <;> (first | refine tG 6 ?_ | refine pG 6 ?_ | (refine va_caseG 6 rfl rfl rfl rfl rfl ?_ ?_ <;> (intro hb; (try simp only [hSQ] at hb); try (exfalso; omega)) <;> first | refine tG 6 ?_ | refine pG 6 ?_)) <;> (first | refine tG 7 ?_ | refine pG 7 ?_ | (refine va_caseG 7 rfl rfl rfl rfl rfl ?_ ?_ <;> (intro hb; (try simp only [hSQ] at hb); try (exfalso; omega)) <;> first | refine tG 7 ?_ | refine pG 7 ?_)) <;> (first | refine tG 8 ?_ | refine pG 8 ?_ | (refine va_caseG 8 rfl rfl rfl rfl rfl ?_ ?_ <;> (intro hb; (try simp only [hSQ] at hb); try (exfalso; omega)) <;> first | refine tG 8 ?_ | refine pG 8 ?_)) <;> (first | refine tG 9 ?_ | refine pG 9 ?_ | (refine va_caseG 9 rfl rfl rfl rfl rfl ?_ ?_ <;> (intro hb; (try simp only [hSQ] at hb); try (exfalso; omega)) <;> first | refine tG 9 ?_ | refine pG 9 ?_)) <;> (first | refine tG 10 ?_ | refine pG 10 ?_ | (refine va_caseG 10 rfl rfl rfl rfl rfl ?_ ?_ <;> (intro hb; (try simp only [hSQ] at hb); try (exfalso; omega)) <;> first | refine tG 10 ?_ | refine pG 10 ?_)) <;> (first | refine tG 11 ?_ | refine pG 11 ?_ | (refine va_caseG 11 rfl rfl rfl rfl rfl ?_ ?_ <;> (intro hb; (try simp only [hSQ] at hb); try (exfalso; omega)) <;> first | refine tG 11 ?_ | refine pG 11 ?_)) <;> (first | refine tG 12 ?_ | refine pG 12 ?_ | (refine va_caseG 12 rfl rfl rfl rfl rfl ?_ ?_ <;> (intro hb; (try simp only [hSQ] at hb); try (exfalso; omega)) <;> first | refine tG 12 ?_ | refine pG 12 ?_)) <;> (first | refine tG 13 ?_ | refine pG 13 ?_ | (refine va_caseG 13 rfl rfl rfl rfl rfl ?_ ?_ <;> (intro hb; (try simp only [hSQ] at hb); try (exfalso; omega)) <;> first | refine tG 13 ?_ | refine pG 13 ?_)) <;> (first | refine tG 14 ?_ | refine pG 14 ?_ | (refine va_caseG 14 rfl rfl rfl rfl rfl ?_ ?_ <;> (intro hb; (try simp only [hSQ] at hb); try (exfalso; omega)) <;> first | refine tG 14 ?_ | refine pG 14 ?_)) <;> (refine tA 15 ?_) <;> (refine va_done (by kernel_rfl) ?_))
      repeat' (first | (refine go1 ?_; intros) | (refine goCC ?_ ?_ <;> (intro hb; (try simp only [hSQ] at hb); try (exfalso; omega))) | fail)
      · rw [if_pos (by omega)]
        exact ⟨_, ((se_drop _ _).trans ((se_drop _ _).trans ((se_drop _ _).trans ((se_drop _ _).trans ((se_own_nil _ 99 _).trans (se_own_nil _ 99 _)))))).ent w0, none, 0, none, 0, rfl, rfl⟩
      rw [if_neg (by omega)]
      refine clV ?_
      rename_i gq
      rw [List.append_nil]
      refine vc_mono (txins_vc w0 _ a c l.xs m gq x rfl hm1 h.ts.wide hxl hlen) ?_
      rintro v L' ⟨a2, c2, rfl, rfl⟩
      rw [hwith]
      repeat' (first | (refine go1 ?_; intros) | (refine goCC ?_ ?_ <;> (intro hb; (try simp only [hSQ] at hb); try (exfalso; omega))) | fail)
      have hwl : (withT l.xs x).length = l.xs.length + 1 := by rw [← hwith]; simp; omega
      have e2 : splice (Ln.mk l.own a c l.xs).cells (0 + 32) [.slice a2 (l.xs.length + 1) c2] = (Ln.mk l.own a2 c2 (withT l.xs x)).cells := by
        have := splice_mid (bvs l.own) [.slice a l.xs.length c] [] [.slice a2 (l.xs.length + 1) c2] 32 (by simp [ho]) rfl
        simpa [Ln.cells, hwl] using this
      rw [e2]
      have hwc2 := Ln.len (l := Ln.mk l.own a2 c2 (withT l.xs x)) ho
      repeat' (first | (refine go1 ?_; intros) | (refine goCC ?_ ?_ <;> (intro hb; (try simp only [hSQ] at hb); try (exfalso; omega))) | fail)
      exact ⟨_, ((se_own_nil _ 99 _).trans (SE.cons _ (SE.cons _ ((se_drop _ _).trans ((se_drop _ _).trans (se_drop _ _)))))).ent w0, a2, c2, none, 0, rfl, rfl⟩
end Go.Proofs.YtcpndfffdbogbaaGreatDoor
namespace Go.Proofs.YtcpndfffdbogbaaGreatDoor
open Go Go.RowKit
open Classical

end Go.Proofs.YtcpndfffdbogbaaGreatDoor
namespace Go.Proofs.YtcpndfffdbogbaaGreatDoor
open Go Go.RowKit
open Classical

end Go.Proofs.YtcpndfffdbogbaaGreatDoor
namespace Go.Proofs.YtcpndfffdbogbaaGreatDoor
open Go Go.RowKit
open Classical

section
variable {P : Program} {w0 : World} {n : Nat} {ds : List Deferred} {fr : Fr} {L : List Asn} {dst : Option Nat} {ty : TypeId} {pos : String} {after : Array Edge} {gd : Option (Nat × Bool)}
theorem vq_neTxS {t yt : TypeId} {a b : Operand} {x : Tx} (hx : evA fr a = some (.agg x.cells.toArray)) (hy : evA fr b = some (.agg x.cells.toArray)) [he : EqI P t txShape] (hox : x.ok) : VQ P w0 n ⟨dst, .binOp .neq t a b yt, ty, pos, after, gd⟩ (.bool false) ds fr L := by
  have := vq_neTx (P := P) (w0 := w0) (n := n) (ds := ds) (L := L) (dst := dst) (ty := ty) (pos := pos) (after := after) (gd := gd) (t := t) (yt := yt) hx hy hox hox
  rwa [decide_eq_true rfl] at this
end
theorem TsOk.with {xs : List Tx} (h : TsOk xs) (hl : xs.length ≤ 999999) {x : Tx} (hx : x.ok) : TsOk (withT xs x) := ⟨fun y hy => (withT_mem hy).elim (fun e => e ▸ hx) (h.ok y), Nat.le_trans (withT_len _ _) (by omega)⟩
structure LnOk (q : List UInt8 × List Tx × List Tx × Int) : Prop where
  own : q.1.length = 32
  xs : TsOk q.2.1
  ys : TsOk q.2.2.1
theorem LnOk.bad (e : Int) : LnOk (z32, [], [], e) := ⟨rfl, TsOk.nil, TsOk.nil⟩
theorem atT_in {xs : List Tx} {k : Nat} {y : Tx} (h : atT xs k = some y) : y ∈ xs := List.mem_of_find?_eq_some h
theorem putT_ok {l : Ln} (h : l.ok) {x : Tx} (hx : x.ok) : LnOk (putT l x) := by
  unfold putT
  by_cases hm : l.may = true
  · rw [if_pos hm]
    have h256 := (Ln.may_iff.1 hm).1
    by_cases ho : ownT x l.own = true
    · rw [if_pos ho]
      cases ha : atT l.xs x.nonce with
      | none =>
        dsimp only
        split
        · exact LnOk.bad _
        · exact ⟨h.own, h.ts.with (by omega) hx, TsOk.nil⟩
      | some y =>
        dsimp only
        split
        · exact LnOk.bad _
        · exact ⟨h.own, h.ts.with (by omega) hx, TsOk.one (h.ts.ok y (atT_in ha))⟩
    · rw [if_neg ho]; exact LnOk.bad _
  · rw [if_neg hm]; exact LnOk.bad _
theorem Tx.set2 {x : Tx} (h : x.ok) (n : Nat) : splice x.cells 64 [.int .u64 (n : Int)] = ({ x with nonce := n } : Tx).cells := by
  have := splice_mid (bvs x.pub ++ bvs x.to) [.int .u64 (x.nonce : Int)] (.int .u64 (x.amount : Int) :: (.int .u64 (x.fee : Int) :: bvs x.sign)) [.int .u64 (n : Int)] 64 (by simp [h.pub, h.to]) rfl
  simpa [Tx.cells] using this
theorem TsOk.zero {zs : List Tx} (h : TsOk zs) {i : Nat} (hi : i < zs.length) : TsOk (zs.set i { zs[i] with nonce := 0 }) ∧ splice (txc zs) (i * 99 + 64) [.int .u64 0] = txc (zs.set i { zs[i] with nonce := 0 }) := by
  have hk := h.at i hi
  refine ⟨⟨fun y hy => ?_, by rw [List.length_set]; exact h.len⟩, h.wide.splIn i hi 64 _ (by decide) (Tx.set2 hk 0)⟩
  rcases List.mem_or_eq_of_mem_set hy with hy | rfl
  · exact h.ok y hy
  · exact ⟨hk.pub, hk.to, (show (0 : Nat) < 18446744073709551616 by decide), hk.amount, hk.fee, hk.sign⟩
/-- What may be of what is opened. -/
structure Ln.ok0 (l : Ln) : Prop where
  own : l.own.length = 32
  len : l.xs.length ≤ 9223372036854775807
  ok : ∀ x ∈ l.xs, x.ok
theorem Ln.ok0.up {l : Ln} (h : l.ok0) (hl : l.xs.length ≤ 1000000) : l.ok := ⟨h.own, h.ok, hl⟩
end Go.Proofs.YtcpndfffdbogbaaGreatDoor
