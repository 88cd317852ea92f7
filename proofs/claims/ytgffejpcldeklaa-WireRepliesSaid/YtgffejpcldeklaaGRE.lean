/-
  A reply with what is told of it alone (the document's). A proof among bytes, as the document reads it: plain. A reply among bytes, as the document reads it: plain. A proof among bytes: the document reads it.
-/
import Derived.Test.YtgffejpcldeklaaGRD
import Derived.Test.YtgffejpcldeklaaGHC
set_option linter.unusedVariables false
set_option linter.unusedSimpArgs false
set_option linter.unusedSectionVars false

namespace Go.Proofs.Ytgffejpcldeklaa
open Go Go.RowKit
open Classical

/-- .. its proof's places are kept. -/
def bareQ (r : Rp) : Rp :=
  if r.code ≠ 0 then rpK r.kind r.code
  else if r.kind.toNat = 2 then ⟨r.kind, r.code, 0, d32, r.nonce, r.bal, recZero, prf0, 0, false, ev0⟩
  else if r.kind.toNat = 3 then ⟨r.kind, r.code, r.height, d32, 0, 0, r.rc, prf0, 0, false, ev0⟩
  else if r.kind.toNat = 4 then ⟨r.kind, r.code, r.height, r.dig, 0, 0, recZero, r.prf, 0, false, ev0⟩
  else if r.kind.toNat = 5 then ⟨r.kind, r.code, r.height, r.dig, 0, 0, recZero, prf0, 0, false, ev0⟩
  else if r.kind.toNat = 6 then ⟨r.kind, r.code, 0, d32, 0, 0, recZero, prf0, r.sub, false, ev0⟩
  else if r.kind.toNat = 7 then ⟨r.kind, r.code, 0, d32, 0, 0, recZero, prf0, 0, r.gap, r.ev⟩
  else rpK r.kind r.code
theorem bareQ_at0 (r : Rp) : (bareQ r).at0 = bareR r := by
  unfold bareQ bareR
  by_cases hc : r.code ≠ 0
  · rw [if_pos hc, if_pos hc]; rfl
  have hz : r.code = 0 := by omega
  rw [if_neg hc, if_neg hc]
  by_cases k2 : r.kind.toNat = 2
  · rw [if_pos k2, if_pos k2, hz]; rfl
  rw [if_neg k2, if_neg k2]
  by_cases k3 : r.kind.toNat = 3
  · rw [if_pos k3, if_pos k3, hz]; rfl
  rw [if_neg k3, if_neg k3]
  by_cases k4 : r.kind.toNat = 4
  · rw [if_pos k4, if_pos k4, hz]; rfl
  rw [if_neg k4, if_neg k4]
  by_cases k5 : r.kind.toNat = 5
  · rw [if_pos k5, if_pos k5, hz]; rfl
  rw [if_neg k5, if_neg k5]
  by_cases k6 : r.kind.toNat = 6
  · rw [if_pos k6, if_pos k6, hz]; rfl
  rw [if_neg k6, if_neg k6]
  by_cases k7 : r.kind.toNat = 7
  · rw [if_pos k7, if_pos k7, hz]; rfl
  rw [if_neg k7, if_neg k7, hz]; rfl
theorem bareQ_ok {r : Rp} (h : r.ok) : (bareQ r).ok := by
  have z0 : I64 0 := ⟨by decide, by decide⟩
  unfold bareQ
  split
  · exact ⟨h.code, z0, rp0_ok.dig, Nat.zero_lt_of_lt (Nat.lt_succ_self 18446744073709551615), Nat.zero_lt_of_lt (Nat.lt_succ_self 18446744073709551615), rp0_ok.rc, rp0_ok.recc, rp0_ok.prf, z0, rp0_ok.num, rp0_ok.hd, rp0_ok.hdh, rp0_ok.hdm⟩
  split
  · exact ⟨h.code, z0, rp0_ok.dig, h.nonce, h.bal, rp0_ok.rc, rp0_ok.recc, rp0_ok.prf, z0, rp0_ok.num, rp0_ok.hd, rp0_ok.hdh, rp0_ok.hdm⟩
  split
  · exact ⟨h.code, h.height, rp0_ok.dig, Nat.zero_lt_of_lt (Nat.lt_succ_self 18446744073709551615), Nat.zero_lt_of_lt (Nat.lt_succ_self 18446744073709551615), h.rc, h.recc, rp0_ok.prf, z0, rp0_ok.num, rp0_ok.hd, rp0_ok.hdh, rp0_ok.hdm⟩
  split
  · exact ⟨h.code, h.height, h.dig, Nat.zero_lt_of_lt (Nat.lt_succ_self 18446744073709551615), Nat.zero_lt_of_lt (Nat.lt_succ_self 18446744073709551615), rp0_ok.rc, rp0_ok.recc, h.prf, z0, rp0_ok.num, rp0_ok.hd, rp0_ok.hdh, rp0_ok.hdm⟩
  split
  · exact ⟨h.code, h.height, h.dig, Nat.zero_lt_of_lt (Nat.lt_succ_self 18446744073709551615), Nat.zero_lt_of_lt (Nat.lt_succ_self 18446744073709551615), rp0_ok.rc, rp0_ok.recc, rp0_ok.prf, z0, rp0_ok.num, rp0_ok.hd, rp0_ok.hdh, rp0_ok.hdm⟩
  split
  · exact ⟨h.code, z0, rp0_ok.dig, Nat.zero_lt_of_lt (Nat.lt_succ_self 18446744073709551615), Nat.zero_lt_of_lt (Nat.lt_succ_self 18446744073709551615), rp0_ok.rc, rp0_ok.recc, rp0_ok.prf, h.sub, rp0_ok.num, rp0_ok.hd, rp0_ok.hdh, rp0_ok.hdm⟩
  split
  · exact ⟨h.code, z0, rp0_ok.dig, Nat.zero_lt_of_lt (Nat.lt_succ_self 18446744073709551615), Nat.zero_lt_of_lt (Nat.lt_succ_self 18446744073709551615), rp0_ok.rc, rp0_ok.recc, rp0_ok.prf, z0, h.num, h.hd, h.hdh, h.hdm⟩
  · exact ⟨h.code, z0, rp0_ok.dig, Nat.zero_lt_of_lt (Nat.lt_succ_self 18446744073709551615), Nat.zero_lt_of_lt (Nat.lt_succ_self 18446744073709551615), rp0_ok.rc, rp0_ok.recc, rp0_ok.prf, z0, rp0_ok.num, rp0_ok.hd, rp0_ok.hdh, rp0_ok.hdm⟩
theorem bareQ_prf (r : Rp) : (bareQ r).prf = prf0 ∨ (bareQ r).prf = r.prf := by
  unfold bareQ
  split
  · exact .inl rfl
  split
  · exact .inl rfl
  split
  · exact .inl rfl
  split
  · exact .inr rfl
  split
  · exact .inl rfl
  split
  · exact .inl rfl
  split
  · exact .inl rfl
  · exact .inl rfl
section
variable {r : Rp} (h : r.ok)
include h
theorem Rp.tH (v : Int) : splice r.cells (0 + 2) [.int .i64 v] = (Rp.mk r.kind r.code v r.dig r.nonce r.bal r.rc r.prf r.sub r.gap r.ev).cells := setL (pre := [_, _]) (xs := [_]) rfl rfl rfl rfl
theorem Rp.tS (v : Int) : splice r.cells (0 + 138) [.int .i64 v] = (Rp.mk r.kind r.code r.height r.dig r.nonce r.bal r.rc r.prf v r.gap r.ev).cells := setL (xs := [.int .i64 r.sub]) (post := .bool r.gap :: r.ev.cells) (Rp.e7 h) (Rp.l7 h) rfl (by simp [Rp.cells])
theorem Rp.tI {e : Evt} (he : e.hd.ok) (g : Bool) : splice r.cells (0 + 139) (.bool g :: e.cells) = (Rp.mk r.kind r.code r.height r.dig r.nonce r.bal r.rc r.prf r.sub g e).cells := setL (pre := (.int .u8 (r.kind.toNat : Nat) :: .int .i64 r.code :: .int .i64 r.height :: (bvs r.dig ++ (.int .u64 r.nonce :: .int .u64 r.bal :: (r.rc.cells ++ r.prf.cells)))) ++ [.int .i64 r.sub]) (xs := .bool r.gap :: r.ev.cells) (post := []) (by rw [Rp.e7 h]; simp) (by rw [List.length_append, Rp.l7 h]; rfl) (by simp [Evt.len h.hd, Evt.len he]) (by simp [Rp.cells])
end
set_option maxRecDepth 100000 in
set_option maxHeartbeats 4000000 in
theorem rbare22_vc (w0 : World) (L : List Asn) (r : Rp) (h : r.ok) :
    VC Try.prog w0 49 [.agg r.cells.toArray] L fun v L' => v = .agg (bareQ r).cells.toArray ∧ L' = L := by
  have hcl := Rp.len h
  have f0 := Rp.f0 h
  have f1 := Rp.f1 h
  have f2 := Rp.f2 h
  have f3 := Rp.f3 h
  have f4 := Rp.f4 h
  have f5 := Rp.f5 h
  have f6 := Rp.f6 h
  have f7 := Rp.f7 h
  have f8 := Rp.f8 h
  haveI hoc : OC r.cells := oc_rp r
  have ok0 : (rpK r.kind r.code).ok := ⟨h.code, rp0_ok.height, rp0_ok.dig, Nat.zero_lt_of_lt (Nat.lt_succ_self 18446744073709551615), Nat.zero_lt_of_lt (Nat.lt_succ_self 18446744073709551615), rp0_ok.rc, rp0_ok.recc, rp0_ok.prf, rp0_ok.sub, rp0_ok.num, rp0_ok.hd, rp0_ok.hdh, rp0_ok.hdm⟩
  have kl := Rp.len ok0
  refine vc_ent ?_
  refine vc_in rfl rfl ?_
  generalize r.cells = cs at *
  repeat' (first | (refine goB ?_; intros) | (refine goCC ?_ ?_ <;> (intro hb; (try simp only [hSQ] at hb); try (exfalso; omega))) | fail)
  refine vl_q rfl rfl rfl rfl (vq_buildP (cs := (rpK r.kind r.code).cells) rfl (by simp [okS, Value.cells]) rfl) ?_
  haveI koc : OC (rpK r.kind r.code).cells := oc_rp _
  obtain ⟨ks, hks⟩ : ∃ ks, ks = (rpK r.kind r.code).cells := ⟨_, rfl⟩
  rw [← hks] at kl koc ⊢
  have hY : (Rp.mk r.kind r.code r.height d32 0 0 recZero prf0 0 false ev0).ok := ⟨h.code, h.height, rp0_ok.dig, ok0.nonce, ok0.bal, rp0_ok.rc, rp0_ok.recc, rp0_ok.prf, rp0_ok.sub, rp0_ok.num, rp0_ok.hd, rp0_ok.hdh, rp0_ok.hdm⟩
  have hY2 : (Rp.mk r.kind r.code r.height r.dig 0 0 recZero prf0 0 false ev0).ok := ⟨h.code, h.height, h.dig, ok0.nonce, ok0.bal, rp0_ok.rc, rp0_ok.recc, rp0_ok.prf, rp0_ok.sub, rp0_ok.num, rp0_ok.hd, rp0_ok.hdh, rp0_ok.hdm⟩
  have yl := Rp.len hY
  have yl2 := Rp.len hY2
  have sH := Rp.tH ok0 r.height
  have sA := Rp.sA ok0 r.nonce r.bal
  have sS := Rp.tS ok0 r.sub
  have sI := Rp.tI ok0 h.hd r.gap
  have sR := Rp.sR hY h.rc
  have sD := Rp.sD hY h.dig
  have sP := Rp.sP hY2 h.prf
  rw [← hks] at sH sA sS sI
  change splice ks (0 + 2) [.int .i64 r.height] = (Rp.mk r.kind r.code r.height d32 0 0 recZero prf0 0 false ev0).cells at sH
  change splice ks (0 + 35) [.int .u64 (r.nonce : Int), .int .u64 (r.bal : Int)] = (Rp.mk r.kind r.code 0 d32 r.nonce r.bal recZero prf0 0 false ev0).cells at sA
  change splice ks (0 + 138) [.int .i64 r.sub] = (Rp.mk r.kind r.code 0 d32 0 0 recZero prf0 r.sub false ev0).cells at sS
  change splice ks (0 + 139) (.bool r.gap :: r.ev.cells) = (Rp.mk r.kind r.code 0 d32 0 0 recZero prf0 0 r.gap r.ev).cells at sI
  change splice _ (0 + 37) r.rc.cells = (Rp.mk r.kind r.code r.height d32 0 0 r.rc prf0 0 false ev0).cells at sR
  change splice _ (0 + 3) (bvs r.dig) = (Rp.mk r.kind r.code r.height r.dig 0 0 recZero prf0 0 false ev0).cells at sD
  change splice _ (0 + 71) r.prf.cells = (Rp.mk r.kind r.code r.height r.dig 0 0 recZero r.prf 0 false ev0).cells at sP
  have lr := Rec.len h.rc
  have lp := Prf.len h.prf
  have ld : (bvs r.dig).length = 32 := by rw [bvs_length, h.dig]
  have li : (Value.bool r.gap :: r.ev.cells).length = 101 := by simp [Evt.len h.hd]
  haveI c1 : OC (Rp.mk r.kind r.code r.height d32 0 0 recZero prf0 0 false ev0).cells := oc_rp _
  haveI c2 : OC (Rp.mk r.kind r.code r.height r.dig 0 0 recZero prf0 0 false ev0).cells := oc_rp _
  haveI c3 : OC (Rp.mk r.kind r.code 0 d32 r.nonce r.bal recZero prf0 0 false ev0).cells := oc_rp _
  haveI c4 : OC (Rp.mk r.kind r.code 0 d32 0 0 recZero prf0 r.sub false ev0).cells := oc_rp _
  haveI c5 : OC (Rp.mk r.kind r.code 0 d32 0 0 recZero prf0 0 r.gap r.ev).cells := oc_rp _
  haveI c6 : OC (Rp.mk r.kind r.code r.height d32 0 0 r.rc prf0 0 false ev0).cells := oc_rp _
  haveI c7 : OC (Rp.mk r.kind r.code r.height r.dig 0 0 recZero r.prf 0 false ev0).cells := oc_rp _
  haveI c8 : OC r.rc.cells := oc_rec _
  haveI c9 : OC r.prf.cells := oc_prf _
  haveI c10 : OC (Value.bool r.gap :: r.ev.cells) := inferInstance
  unfold bareQ
  generalize (Rp.mk r.kind r.code r.height d32 0 0 recZero prf0 0 false ev0).cells = Y1 at *
  generalize hY2c : (Rp.mk r.kind r.code r.height r.dig 0 0 recZero prf0 0 false ev0).cells = Y2 at *
  generalize hY3c : (Rp.mk r.kind r.code 0 d32 r.nonce r.bal recZero prf0 0 false ev0).cells = Y3 at *
  generalize hY4c : (Rp.mk r.kind r.code 0 d32 0 0 recZero prf0 r.sub false ev0).cells = Y4 at *
  generalize hY5c : (Rp.mk r.kind r.code 0 d32 0 0 recZero prf0 0 r.gap r.ev).cells = Y5 at *
  generalize hY6c : (Rp.mk r.kind r.code r.height d32 0 0 r.rc prf0 0 false ev0).cells = Y6 at *
  generalize hY7c : (Rp.mk r.kind r.code r.height r.dig 0 0 recZero r.prf 0 false ev0).cells = Y7 at *
  generalize r.rc.cells = zr at *
  generalize r.prf.cells = zp at *
  generalize (Value.bool r.gap :: r.ev.cells) = zi at *
  have y3l : Y3.length = 240 := by rw [← sA, splice_len _ _ _ (by rw [kl]; show 0 + 35 + 2 ≤ 240; decide), kl]
  have y4l : Y4.length = 240 := by rw [← sS, splice_len _ _ _ (by rw [kl]; show 0 + 138 + 1 ≤ 240; decide), kl]
  have y5l : Y5.length = 240 := by rw [← sI, splice_len _ _ _ (by rw [kl, li]; decide), kl]
  have y6l : Y6.length = 240 := by rw [← sR, splice_len _ _ _ (by rw [yl, lr]; decide), yl]
  have y7l : Y7.length = 240 := by rw [← sP, splice_len _ _ _ (by rw [yl2, lp]; decide), yl2]
  by_cases hc : r.code ≠ 0
  · rw [if_pos hc]
    repeat' (first | (refine go1 ?_; intros) | (refine goCC ?_ ?_ <;> (intro hb; (try simp only [hSQ] at hb); try (exfalso; omega))) | fail)
    all_goals first | (exfalso; omega) | skip
    exact ⟨_, sei _ _ L, by rw [hks], rfl⟩
  rw [if_neg hc]
  by_cases k2 : r.kind.toNat = 2
  · rw [if_pos k2]
    repeat' (first | (refine go1 ?_; intros) | (refine goCC ?_ ?_ <;> (intro hb; (try simp only [hSQ] at hb); try (exfalso; omega))) | fail)
    all_goals first | (exfalso; omega) | skip
    rw [sA]
    repeat' (first | (refine go1 ?_; intros) | (refine goCC ?_ ?_ <;> (intro hb; (try simp only [hSQ] at hb); try (exfalso; omega))) | fail)
    exact ⟨_, sei _ _ L, by rw [← hY3c], rfl⟩
  rw [if_neg k2]
  by_cases k3 : r.kind.toNat = 3
  · rw [if_pos k3]
    repeat' (first | (refine go1 ?_; intros) | (refine goCC ?_ ?_ <;> (intro hb; (try simp only [hSQ] at hb); try (exfalso; omega))) | fail)
    all_goals first | (exfalso; omega) | skip
    rw [sH]
    refine vl_o rfl (vo_stB rfl rfl rfl lr (by rw [yl, lr]; decide) sR ?_)
    repeat' (first | (refine go1 ?_; intros) | (refine goCC ?_ ?_ <;> (intro hb; (try simp only [hSQ] at hb); try (exfalso; omega))) | fail)
    exact ⟨_, sei _ _ L, by rw [← hY6c], rfl⟩
  rw [if_neg k3]
  by_cases k4 : r.kind.toNat = 4
  · rw [if_pos k4]
    repeat' (first | (refine go1 ?_; intros) | (refine goCC ?_ ?_ <;> (intro hb; (try simp only [hSQ] at hb); try (exfalso; omega))) | fail)
    all_goals first | (exfalso; omega) | skip
    rw [sH]
    refine vl_o rfl (vo_stB rfl rfl rfl ld (by rw [yl, ld]; decide) sD ?_)
    repeat' (first | (refine go1 ?_; intros) | (refine goCC ?_ ?_ <;> (intro hb; (try simp only [hSQ] at hb); try (exfalso; omega))) | fail)
    refine vl_o rfl (vo_stB rfl rfl rfl lp (by rw [yl2, lp]; decide) sP ?_)
    repeat' (first | (refine go1 ?_; intros) | (refine goCC ?_ ?_ <;> (intro hb; (try simp only [hSQ] at hb); try (exfalso; omega))) | fail)
    exact ⟨_, sei _ _ L, by rw [← hY7c], rfl⟩
  rw [if_neg k4]
  by_cases k5 : r.kind.toNat = 5
  · rw [if_pos k5]
    repeat' (first | (refine go1 ?_; intros) | (refine goCC ?_ ?_ <;> (intro hb; (try simp only [hSQ] at hb); try (exfalso; omega))) | fail)
    all_goals first | (exfalso; omega) | skip
    rw [sH]
    refine vl_o rfl (vo_stB rfl rfl rfl ld (by rw [yl, ld]; decide) sD ?_)
    repeat' (first | (refine go1 ?_; intros) | (refine goCC ?_ ?_ <;> (intro hb; (try simp only [hSQ] at hb); try (exfalso; omega))) | fail)
    exact ⟨_, sei _ _ L, by rw [← hY2c], rfl⟩
  rw [if_neg k5]
  by_cases k6 : r.kind.toNat = 6
  · rw [if_pos k6]
    repeat' (first | (refine go1 ?_; intros) | (refine goCC ?_ ?_ <;> (intro hb; (try simp only [hSQ] at hb); try (exfalso; omega))) | fail)
    all_goals first | (exfalso; omega) | skip
    rw [sS]
    repeat' (first | (refine go1 ?_; intros) | (refine goCC ?_ ?_ <;> (intro hb; (try simp only [hSQ] at hb); try (exfalso; omega))) | fail)
    exact ⟨_, sei _ _ L, by rw [← hY4c], rfl⟩
  rw [if_neg k6]
  by_cases k7 : r.kind.toNat = 7
  · rw [if_pos k7]
    repeat' (first | (refine go1 ?_; intros) | (refine goCC ?_ ?_ <;> (intro hb; (try simp only [hSQ] at hb); try (exfalso; omega))) | fail)
    all_goals first | (exfalso; omega) | skip
    refine vl_o rfl (vo_stB rfl rfl rfl li (by rw [kl, li]; decide) sI ?_)
    repeat' (first | (refine go1 ?_; intros) | (refine goCC ?_ ?_ <;> (intro hb; (try simp only [hSQ] at hb); try (exfalso; omega))) | fail)
    exact ⟨_, sei _ _ L, by rw [← hY5c], rfl⟩
  rw [if_neg k7]
  repeat' (first | (refine go1 ?_; intros) | (refine goCC ?_ ?_ <;> (intro hb; (try simp only [hSQ] at hb); try (exfalso; omega))) | fail)
  all_goals first | (exfalso; omega) | skip
  all_goals exact ⟨_, sei _ _ L, by rw [hks], rfl⟩
end Go.Proofs.Ytgffejpcldeklaa
namespace Go.Proofs.Ytgffejpcldeklaa
open Go Go.RowKit
open Classical

theorem dig22_of {b d R : List UInt8} {i : Nat} (h : b.drop i = d ++ R) (hd : d.length = 32) : dig22 b i = d := by
  unfold dig22
  rw [h, List.take_left' hd, hd]
  simp
theorem len_of {b X : List UInt8} {i : Nat} (h : b.drop i = X) (hX : 0 < X.length) : b.length = i + X.length := by
  have := congrArg List.length h
  rw [List.length_drop] at this
  omega
theorem small_of {b R : List UInt8} {i n s : Nat} (h : b.drop i = digs n s ++ R) (hs : 0 < s) (h8 : s ≤ 8) (hn : n < 256 ^ s) (hn2 : n < 2147483648) : small22 b i s = n := by
  have hl := digs_length n s
  have hb := len_of h (by rw [List.length_append, hl]; omega)
  rw [List.length_append, hl] at hb
  unfold small22
  rw [h, List.take_left' hl, numOf_digs s n h8 hn, if_neg (by omega), if_neg (by omega)]
/-- Sides: so many, while there are bytes. -/
def sidL (b : List UInt8) : Nat → Nat → List (List UInt8)
  | 0, _ => []
  | m + 1, i => if i + 32 ≤ b.length then dig22 b i :: sidL b m (i + 32) else []
theorem sidL_of (b : List UInt8) : ∀ (l : List (List UInt8)) (i : Nat), Dg l → b.drop i = l.flatten → sidL b l.length i = l
  | [], _, _, _ => rfl
  | d :: l, i, hg, h => by
    have hd : d.length = 32 := hg d (by simp)
    rw [List.flatten_cons] at h
    have hb := len_of h (by rw [List.length_append, hd]; omega)
    rw [List.length_append, hd] at hb
    show (if i + 32 ≤ b.length then dig22 b i :: sidL b l.length (i + 32) else []) = _
    rw [if_pos (by omega), dig22_of h hd, sidL_of b l (i + 32) (fun x hx => hg x (by simp [hx])) (by rw [← List.drop_drop, h, List.drop_left' hd])]
theorem sidL_le (b : List UInt8) : ∀ (m i : Nat), (sidL b m i).length ≤ m ∧ Dg (sidL b m i)
  | 0, _ => ⟨Nat.le_refl _, fun x hx => by cases hx⟩
  | m + 1, i => by
    unfold sidL
    split
    · have := sidL_le b m (i + 32)
      refine ⟨by simp; omega, fun x hx => ?_⟩
      rcases List.mem_cons.1 hx with rfl | hx
      · exact dig22_len _ _
      · exact this.2 x hx
    · exact ⟨by simp, fun x hx => by cases hx⟩
def pfEnd (b : List UInt8) (i : Nat) (p : Prf) : Prf := p.wPl (sidL b (small22 b i 2).toNat (i + 2))
def pfVal (b : List UInt8) (i : Nat) (p : Prf) : Prf :=
  if p.kind = 0 then pfEnd b i p
  else if small22 b i 2 < 0 ∨ b.length < i + 2 + (small22 b i 2).toNat then p
  else pfEnd b (i + 2 + (small22 b i 2).toNat) (p.wVl ((b.drop (i + 2)).take (small22 b i 2).toNat))
/-- The proof at a place. -/
def pfD (b : List UInt8) (i : Nat) : Prf :=
  if b.length ≤ i + 32 then prf0.wKey (dig22 b i)
  else if (b.getD (i + 32) 0).toNat = 2 then pfVal b (i + 65) (((prf0.wKey (dig22 b i)).wKind (b.getD (i + 32) 0).toNat).wOther (dig22 b (i + 33)))
  else pfVal b (i + 33) ((prf0.wKey (dig22 b i)).wKind (b.getD (i + 32) 0).toNat)
theorem pfEnd_of {b : List UInt8} {i : Nat} {p : Prf} {l : List (List UInt8)} (hl : l.length ≤ 256) (hg : Dg l) (h : b.drop i = digs l.length 2 ++ l.flatten) : pfEnd b i p = p.wPl l := by
  unfold pfEnd
  rw [small_of h (by decide) (by decide) (by omega) (by omega), Int.toNat_natCast, sidL_of b l (i + 2) hg (by rw [← List.drop_drop, h, List.drop_left' (digs_length _ _)])]
theorem pfVal_of {b : List UInt8} {i : Nat} {p : Prf} {v : List UInt8} {l : List (List UInt8)} (hv : v.length ≤ 4096) (hn : p.kind = 0 → v = p.vl) (hl : l.length ≤ 256) (hg : Dg l) (h : b.drop i = (if p.kind ≠ 0 then digs v.length 2 ++ v else []) ++ (digs l.length 2 ++ l.flatten)) : pfVal b i p = (p.wVl v).wPl l := by
  unfold pfVal
  by_cases k0 : p.kind = 0
  · rw [if_pos k0]
    rw [if_neg (by omega), List.nil_append] at h
    rw [pfEnd_of hl hg h, hn k0]
    rfl
  · rw [if_neg k0]
    rw [if_pos k0, List.append_assoc] at h
    have h2 := digs_length v.length 2
    have hb := len_of h (by rw [List.length_append, h2]; omega)
    rw [List.length_append, List.length_append, h2] at hb
    rw [small_of h (by decide) (by decide) (by omega) (by omega), Int.toNat_natCast, if_neg (by omega)]
    have hd : b.drop (i + 2) = v ++ (digs l.length 2 ++ l.flatten) := by rw [← List.drop_drop, h, List.drop_left' h2]
    rw [hd, List.take_left, pfEnd_of hl hg (by rw [← List.drop_drop, hd, List.drop_left])]
theorem pfD_of {b : List UInt8} {i : Nat} {q : Prf} (h : PrfIs q) (hb : b.drop i = prfB q) : pfD b i = q.at0 := by
  have hk := h.key
  have hk2 := h.kind
  unfold prfB at hb
  have hlen := len_of hb (by rw [List.length_append, hk]; omega)
  rw [List.length_append, List.length_cons, hk] at hlen
  have hd1 : b.drop (i + 32) = UInt8.ofNat q.kind :: ((if q.kind = 2 then q.other else []) ++ ((if q.kind ≠ 0 then digs q.vl.length 2 ++ q.vl else []) ++ (digs q.pl.length 2 ++ q.pl.flatten))) := by rw [← List.drop_drop, hb, List.drop_left' hk]
  have hg : b.getD (i + 32) 0 = UInt8.ofNat q.kind := by
    have := congrArg List.head? hd1
    rw [List.head?_drop] at this
    simp [List.getD, this]
  have hkn : (UInt8.ofNat q.kind).toNat = q.kind := by simp; omega
  have hd2 : b.drop (i + 33) = (if q.kind = 2 then q.other else []) ++ ((if q.kind ≠ 0 then digs q.vl.length 2 ++ q.vl else []) ++ (digs q.pl.length 2 ++ q.pl.flatten)) := by
    rw [show i + 33 = (i + 32) + 1 from rfl, ← List.drop_drop, hd1]
    rfl
  unfold pfD
  rw [if_neg (by omega), hg, hkn, dig22_of hb hk]
  by_cases k2 : q.kind = 2
  · rw [if_pos k2]
    rw [if_pos k2] at hd2
    have hd3 : b.drop (i + 65) = (if q.kind ≠ 0 then digs q.vl.length 2 ++ q.vl else []) ++ (digs q.pl.length 2 ++ q.pl.flatten) := by
      rw [show i + 65 = (i + 33) + 32 from rfl, ← List.drop_drop, hd2, List.drop_left' h.other]
    rw [dig22_of hd2 h.other, pfVal_of (p := ((prf0.wKey q.key).wKind q.kind).wOther q.other) h.vl (fun e => absurd (show q.kind = 0 from e) (by omega)) h.pl h.dg hd3]
    rfl
  · rw [if_neg k2]
    rw [if_neg k2, List.nil_append] at hd2
    rw [pfVal_of (p := (prf0.wKey q.key).wKind q.kind) h.vl (fun e => h.none' e) h.pl h.dg hd2]
    have := h.bare k2
    show Prf.mk q.key q.kind zero32 none 0 q.vl none 0 q.pl = Prf.mk q.key q.kind q.other none 0 q.vl none 0 q.pl
    rw [this]
end Go.Proofs.Ytgffejpcldeklaa
namespace Go.Proofs.Ytgffejpcldeklaa
open Go Go.RowKit
open Classical

/-- The reply of bytes, well or not. -/
def rdD (b : List UInt8) : Rp :=
  if small22 b 1 2 ≠ 0 then rpK (b.getD 0 0) (small22 b 1 2)
  else if (b.getD 0 0).toNat = 2 then (if b.length = 19 then ⟨b.getD 0 0, small22 b 1 2, 0, d32, numOf ((b.drop 3).take 8), numOf (b.drop 11), recZero, prf0, 0, false, ev0⟩ else rpK (b.getD 0 0) (small22 b 1 2))
  else if (b.getD 0 0).toNat = 3 then ⟨b.getD 0 0, small22 b 1 2, small22 b 3 8, d32, 0, 0, if b.length = 46 then (recRead (b.drop 11)).1 else recZero, prf0, 0, false, ev0⟩
  else if (b.getD 0 0).toNat = 4 then ⟨b.getD 0 0, small22 b 1 2, small22 b 3 8, dig22 b 11, 0, 0, recZero, pfD b 43, 0, false, ev0⟩
  else if (b.getD 0 0).toNat = 5 then ⟨b.getD 0 0, small22 b 1 2, small22 b 3 8, dig22 b 11, 0, 0, recZero, prf0, 0, false, ev0⟩
  else if (b.getD 0 0).toNat = 6 then ⟨b.getD 0 0, small22 b 1 2, 0, d32, 0, 0, recZero, prf0, small22 b 3 4, false, ev0⟩
  else if (b.getD 0 0).toNat = 7 then (if b.length = 121 then ⟨b.getD 0 0, small22 b 1 2, 0, d32, 0, 0, recZero, prf0, 0, decide (b.getD 3 0 = 1), ⟨small22 b 4 8, decide (b.getD 12 0 = 1), (hdRead (b.drop 13)).1⟩⟩ else rpK (b.getD 0 0) (small22 b 1 2))
  else rpK (b.getD 0 0) (small22 b 1 2)
theorem fl_one (g : Bool) : decide (fl g = 1) = g := by cases g <;> decide
theorem getD_of {b R : List UInt8} {x : UInt8} {i : Nat} (h : b.drop i = x :: R) : b.getD i 0 = x := by
  have := congrArg List.head? h
  rw [List.head?_drop] at this
  simp [List.getD, this]
/-- What may be is read back. -/
theorem rdD_of {r : Rp} (h : r.ok) (hm : MayR r) : (rdD (ofR r)).at0 = r.at0 := by
  obtain ⟨c, hc⟩ : ∃ c : Nat, r.code = c := ⟨r.code.toNat, by have := hm.c0; omega⟩
  have hb := hm.bare
  have hc1 := hm.c1
  have hk : (ofR r).getD 0 0 = r.kind := rfl
  have hd1 : (ofR r).drop 1 = digs c 2 ++ (if r.code ≠ 0 then [] else restR r) := by
    unfold ofR
    rw [hc, Int.toNat_natCast]
    rfl
  have hs : small22 (ofR r) 1 2 = r.code := by rw [hc]; exact small_of hd1 (by decide) (by decide) (by omega) (by omega)
  unfold rdD
  rw [hk, hs]
  rw [hb]
  unfold bareR
  by_cases hc0 : r.code ≠ 0
  · rw [if_pos hc0, if_pos hc0]
    rfl
  rw [if_neg hc0, if_neg hc0]
  rw [if_neg hc0] at hd1
  have hz : r.code = 0 := by omega
  have hd3 : (ofR r).drop 3 = restR r := by
    rw [show 3 = 1 + 2 from rfl, ← List.drop_drop, hd1, List.drop_left' (digs_length _ _)]
  have hlen : (ofR r).length = 3 + (restR r).length := by
    unfold ofR
    rw [if_neg hc0, List.length_cons, List.length_append, digs_length]
    omega
  obtain ⟨H, hH⟩ : ∃ H : Nat, r.height = H := ⟨r.height.toNat, by have := hm.h0; omega⟩
  obtain ⟨S, hS⟩ : ∃ S : Nat, r.sub = S := ⟨r.sub.toNat, by have := hm.s0; omega⟩
  obtain ⟨M, hM⟩ : ∃ M : Nat, r.ev.num = M := ⟨r.ev.num.toNat, by have := hm.n0; omega⟩
  have hh1 := hm.h1
  have hs1 := hm.s1
  have hn1 := hm.n1
  generalize ofR r = b at *
  unfold restR at hd3 hlen
  by_cases k2 : r.kind.toNat = 2
  · simp only [if_pos k2] at hd3 hlen ⊢
    rw [accB_len] at hlen
    have e1 : (b.drop 3).take 8 = digs r.nonce 8 := by rw [hd3]; exact List.take_left' (digs_length _ _)
    have e2 : b.drop 11 = digs r.bal 8 := by
      rw [show 11 = 3 + 8 from rfl, ← List.drop_drop, hd3]
      exact List.drop_left' (digs_length _ _)
    have hp : (256 : Nat) ^ 8 = 18446744073709551616 := by decide
    have hn := h.nonce
    have hbl := h.bal
    rw [if_pos hlen, e1, e2, numOf_digs 8 _ (by decide) (by omega), numOf_digs 8 _ (by decide) (by omega), hz]
    rfl
  simp only [if_neg k2] at hd3 hlen ⊢
  have sm : ∀ X : List UInt8, b.drop 3 = digs r.height.toNat 8 ++ X → small22 b 3 8 = r.height := fun X e => by
    rw [hH, Int.toNat_natCast] at e
    rw [hH]
    exact small_of e (by decide) (by decide) (by rw [p8]; omega) (by omega)
  by_cases k3 : r.kind.toNat = 3
  · simp only [if_pos k3] at hd3 hlen ⊢
    rw [List.length_append, digs_length, recBytes_len h.rc] at hlen
    have e2 : b.drop 11 = recBytes r.rc := by
      rw [show 11 = 3 + 8 from rfl, ← List.drop_drop, hd3]
      exact List.drop_left' (digs_length _ _)
    rw [if_pos hlen, sm _ hd3, e2, (recRead_iff (recBytes_len h.rc) h.rc).2 ⟨hm.rc hz k3, rfl⟩, hz]
    rfl
  simp only [if_neg k3] at hd3 hlen ⊢
  by_cases k4 : r.kind.toNat = 4
  · simp only [if_pos k4] at hd3 hlen ⊢
    have e2 : b.drop 11 = r.dig ++ prfB r.prf := by
      rw [show 11 = 3 + 8 from rfl, ← List.drop_drop, hd3]
      exact List.drop_left' (digs_length _ _)
    have e3 : b.drop 43 = prfB r.prf := by
      rw [show 43 = 11 + 32 from rfl, ← List.drop_drop, e2]
      exact List.drop_left' h.dig
    rw [sm _ hd3, dig22_of e2 h.dig, pfD_of (prfIs_may h.prf (hm.prf hz k4)) e3, hz]
    rfl
  simp only [if_neg k4] at hd3 hlen ⊢
  by_cases k5 : r.kind.toNat = 5
  · simp only [if_pos k5] at hd3 hlen ⊢
    have e2 : b.drop 11 = r.dig ++ [] := by
      rw [show 11 = 3 + 8 from rfl, ← List.drop_drop, hd3, List.append_nil]
      exact List.drop_left' (digs_length _ _)
    rw [sm _ hd3, dig22_of e2 h.dig, hz]
    rfl
  simp only [if_neg k5] at hd3 hlen ⊢
  by_cases k6 : r.kind.toNat = 6
  · simp only [if_pos k6] at hd3 hlen ⊢
    rw [hS, Int.toNat_natCast] at hd3
    rw [hS, small_of (R := []) (by rw [hd3, List.append_nil]) (by decide) (by decide) (by rw [p4]; omega) (by omega), hz]
    rfl
  simp only [if_neg k6] at hd3 hlen ⊢
  by_cases k7 : r.kind.toNat = 7
  · simp only [if_pos k7] at hd3 hlen ⊢
    rw [List.length_cons, List.length_append, List.length_cons, digs_length, hBytes_len h.hd] at hlen
    rw [hM, Int.toNat_natCast] at hd3
    have e4 : b.drop 4 = digs M 8 ++ (fl r.ev.roll :: hBytes r.ev.hd) := by
      rw [show 4 = 3 + 1 from rfl, ← List.drop_drop, hd3]
      rfl
    have e12 : b.drop 12 = fl r.ev.roll :: hBytes r.ev.hd := by
      rw [show 12 = 4 + 8 from rfl, ← List.drop_drop, e4]
      exact List.drop_left' (digs_length _ _)
    have e13 : b.drop 13 = hBytes r.ev.hd := by
      rw [show 13 = 12 + 1 from rfl, ← List.drop_drop, e12]
      rfl
    rw [if_pos hlen, getD_of hd3, getD_of e12, fl_one, fl_one, small_of e4 (by decide) (by decide) (by rw [p8]; omega) (by omega), e13, (hdRead_iff (hBytes_len h.hd) h.hd).2 ⟨hm.hd, rfl⟩, hz, ← hM]
    rfl
  simp only [if_neg k7] at hd3 hlen ⊢
  rw [hz]
  rfl
end Go.Proofs.Ytgffejpcldeklaa
namespace Go.Proofs.Ytgffejpcldeklaa
open Go Go.RowKit
open Classical

theorem sidL_at (b : List UInt8) (m i : Nat) : ∀ k, k ≤ m → i + k * 32 ≤ b.length → sidL b m i = sidL b k i ++ sidL b (m - k) (i + k * 32)
  | 0, _, _ => by simp [sidL]
  | k + 1, hk, hb => by
    obtain ⟨m', rfl⟩ : ∃ m', m = m' + 1 := ⟨m - 1, by omega⟩
    show (if i + 32 ≤ b.length then dig22 b i :: sidL b m' (i + 32) else []) = (if i + 32 ≤ b.length then dig22 b i :: sidL b k (i + 32) else []) ++ _
    rw [if_pos (by omega), if_pos (by omega), List.cons_append, sidL_at b m' (i + 32) k (by omega) (by omega), show m' + 1 - (k + 1) = m' - k by omega, show i + 32 + k * 32 = i + (k + 1) * 32 by omega]
theorem sidL_full (b : List UInt8) : ∀ (k i : Nat), i + k * 32 ≤ b.length → (sidL b k i).length = k
  | 0, _, _ => rfl
  | k + 1, i, h => by
    show (if i + 32 ≤ b.length then dig22 b i :: sidL b k (i + 32) else []).length = _
    rw [if_pos (by omega), List.length_cons, sidL_full b k (i + 32) (by omega)]
theorem sidL_step {b : List UInt8} {k i : Nat} (h : i + (k + 1) * 32 ≤ b.length) : sidL b (k + 1) i = sidL b k i ++ [dig22 b (i + k * 32)] := by
  rw [sidL_at b (k + 1) i k (by omega) (by omega), show k + 1 - k = 1 by omega]
  congr 1
  show (if i + k * 32 + 32 ≤ b.length then dig22 b (i + k * 32) :: sidL b 0 (i + k * 32 + 32) else []) = _
  rw [if_pos (by omega)]
  rfl
theorem sidL_stop {b : List UInt8} {m k i : Nat} (hk : k ≤ m) (hb : i + k * 32 ≤ b.length) (hn : ¬ (k < m ∧ i + k * 32 + 32 ≤ b.length)) : sidL b m i = sidL b k i := by
  rw [sidL_at b m i k hk hb]
  by_cases e : k = m
  · rw [e, Nat.sub_self]
    show _ ++ [] = _
    rw [List.append_nil]
  · obtain ⟨j, hj⟩ : ∃ j, m - k = j + 1 := ⟨m - k - 1, by omega⟩
    rw [hj]
    show _ ++ (if i + k * 32 + 32 ≤ b.length then dig22 b (i + k * 32) :: sidL b j (i + k * 32 + 32) else []) = _
    rw [if_neg (by omega), List.append_nil]
end Go.Proofs.Ytgffejpcldeklaa
