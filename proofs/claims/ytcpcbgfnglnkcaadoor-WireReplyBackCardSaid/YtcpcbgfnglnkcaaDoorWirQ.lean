/-
  Requests: what is read by parts is what the document reads.
-/
import Derived.Test.YtcpcbgfnglnkcaaDoorWirP
set_option linter.unusedVariables false
set_option linter.unusedSimpArgs false
set_option linter.unusedSectionVars false

namespace Go.Proofs.YtcpcbgfnglnkcaaDoor
open Go Go.RowKit
open Classical

theorem mayA_of {a : Ask} (h1 : okK a.kind = true) (h2 : a.kind.toNat = 1 → a.tx.sign = sgn a.tx) (h3 : a = bareA a) (h4 : rngA a) : mayA a = true := decide_eq_true ⟨h1, h2, h3, h4⟩
theorem mayA_rng {a : Ask} (h : mayA a = true) : rngA a := (of_decide_eq_true h).2.2.2
theorem mayA_k {a : Ask} (h : mayA a = true) : okK a.kind = true := (of_decide_eq_true h).1
theorem mayA_s {a : Ask} (h : mayA a = true) : a.kind.toNat = 1 → a.tx.sign = sgn a.tx := (of_decide_eq_true h).2.1
theorem read1 {k : UInt8} {t : List UInt8} (hk : k.toNat = 1) : readP (k :: t) = readA (k :: t) := by
  have hok : okK k = true := decide_eq_true (by omega)
  have ep : ptsOf k = [.t] := by unfold ptsOf; rw [if_pos hk]
  have er : rawA k t = { zA with kind := k, tx := (txRead t).1 } := by unfold rawA; rw [if_pos hk]
  have ef : foldP (ptsOf k) ⟨t, false, { zA with kind := k }⟩ = ⟨dropX 120 t, decide (t.length < 120) || !decide ((txRead (takeX 120 t)).2 = 0), rdT ⟨t, false, { zA with kind := k }⟩⟩ := by
    rw [ep]; simp [foldP, Pt.step]
  rw [readP, readA, ef, er]
  dsimp only
  by_cases h1 : t.length < 120
  · have e : txRead t = (zeroTx, 10) := by unfold txRead; rw [if_pos h1]
    rw [e, if_neg (by rintro ⟨_, h, _⟩; omega), if_neg (by rintro ⟨_, h, _⟩; simp [h1] at h), if_neg (by rintro ⟨_, h⟩; simp at h), if_neg]
    rintro ⟨h, _⟩
    exact zero_unsigned (mayA_s h hk)
  by_cases h2 : 120 < t.length
  · have e : txRead t = (zeroTx, 11) := by unfold txRead; rw [if_neg h1, if_pos h2]
    rw [e, if_neg (by rintro ⟨_, h, _⟩; omega), if_neg (by
      rintro ⟨_, _, h⟩
      unfold dropX at h
      rw [if_neg h1] at h
      have := congrArg List.length h
      simp at this
      omega), if_neg (by rintro ⟨_, h⟩; simp at h), if_neg]
    rintro ⟨h, _⟩
    exact zero_unsigned (mayA_s h hk)
  have hl : t.length = 120 := by omega
  have etx : takeX 120 t = t := by unfold takeX; rw [if_neg h1, List.take_of_length_le (by omega)]
  have edx : dropX 120 t = [] := by unfold dropX; rw [if_neg h1, List.drop_eq_nil_of_le (by omega)]
  rw [etx, edx]
  by_cases hs : (txOf t).sign = sgn (txOf t)
  · have e : txRead t = (txOf t, 0) := by unfold txRead; rw [if_neg h1, if_neg h2, if_pos hs]
    have hm : mayA { zA with kind := k, tx := txOf t } = true := by
      refine mayA_of hok (fun _ => hs) ?_ (by unfold rngA; simp [zA])
      unfold bareA
      rw [if_pos hk]
    have ho : ofA { zA with kind := k, tx := txOf t } = k :: t := by
      unfold ofA
      rw [if_pos hk, txBytes_of hl]
    have eT : rdT ⟨t, false, { zA with kind := k }⟩ = { zA with kind := k, tx := txOf t } := by
      unfold rdT
      rw [if_neg (by simp [h1])]
      dsimp only
      rw [etx, e]
    rw [e, eT]
    rw [if_neg (by rintro ⟨_, _, h⟩; exact h rfl), if_pos ⟨hok, by simp [h1], rfl⟩, if_neg (by rintro ⟨_, h⟩; simp at h), if_pos ⟨hm, ho⟩]
  · have e : txRead t = (zeroTx, 110) := by unfold txRead; rw [if_neg h1, if_neg h2, if_neg hs]
    rw [e, if_pos ⟨hk, hl, by simp⟩, if_pos ⟨hk, rfl⟩]
theorem read0 {k : UInt8} {t : List UInt8} (hk : k.toNat ≠ 1) : readP (k :: t) = (if okK k = true ∧ (foldP (ptsOf k) ⟨t, false, { zA with kind := k }⟩).bad = false ∧ (foldP (ptsOf k) ⟨t, false, { zA with kind := k }⟩).r = [] then ((foldP (ptsOf k) ⟨t, false, { zA with kind := k }⟩).a, 0) else (zA, 220)) ∧ readA (k :: t) = (if mayA (rawA k t) = true ∧ ofA (rawA k t) = k :: t then (rawA k t, 0) else (zA, 220)) :=
  ⟨by rw [readP, if_neg (fun e => hk e.1)], by rw [readA, if_neg (fun e => hk e.1)]⟩
theorem read2 {k : UInt8} {t : List UInt8} (hk : k.toNat = 2 ∨ k.toNat = 3) : readP (k :: t) = readA (k :: t) := by
  have hn : k.toNat ≠ 1 := by omega
  have hok : okK k = true := decide_eq_true (by omega)
  have ep : ptsOf k = [.d] := by unfold ptsOf; rw [if_neg hn, if_pos hk]
  have er : rawA k t = { zA with kind := k, key := dig22 t 0 } := by unfold rawA; rw [if_neg hn, if_pos hk]
  have ef : foldP (ptsOf k) ⟨t, false, { zA with kind := k }⟩ = ⟨dropX 32 t, decide (t.length < 32), { zA with kind := k, key := takeX 32 t }⟩ := by
    rw [ep]; simp [foldP, Pt.step]
  rw [(read0 hn).1, (read0 hn).2, ef, er]
  dsimp only
  by_cases hl : t.length = 32
  · have etx : takeX 32 t = t := by unfold takeX; rw [if_neg (by omega), List.take_of_length_le (by omega)]
    have edx : dropX 32 t = [] := by unfold dropX; rw [if_neg (by omega), List.drop_eq_nil_of_le (by omega)]
    have edg : dig22 t 0 = t := by rw [dig22_full (by omega), List.drop_zero]
    have hm : mayA { zA with kind := k, key := t } = true := by
      refine mayA_of hok (fun e => absurd e hn) ?_ (by unfold rngA; simp [zA])
      unfold bareA
      rw [if_neg hn, if_pos hk]
    have ho : ofA { zA with kind := k, key := t } = k :: t := by
      unfold ofA
      rw [if_neg hn, if_pos hk]
    rw [etx, edx, edg, if_pos ⟨hok, by simp [hl], rfl⟩, if_pos ⟨hm, ho⟩]
  · rw [if_neg, if_neg]
    · rintro ⟨_, h⟩
      unfold ofA at h
      rw [if_neg hn, if_pos hk] at h
      have := congrArg List.length h
      simp only [List.length_cons, dig22_len] at this
      omega
    · rintro ⟨_, h1, h2⟩
      have h1 := of_decide_eq_false h1
      unfold dropX at h2
      rw [if_neg h1] at h2
      have := congrArg List.length h2
      simp at this
      omega
theorem small_in {t : List UInt8} {s : Nat} (hs : 0 < s) (hl : s ≤ t.length) (hn : numOf (t.take s) < 2147483648) : small22 t 0 s = numOf (t.take s) := by
  unfold small22
  rw [if_neg (by omega), List.drop_zero, if_neg (by omega)]
theorem small_out {t : List UInt8} {s : Nat} (h : t.length < s ∨ 2147483648 ≤ numOf (t.take s)) : small22 t 0 s = -1 := by
  unfold small22
  by_cases h1 : t.length < 0 + s
  · rw [if_pos h1]
  · rw [if_neg h1, List.drop_zero, if_pos (by omega)]
theorem read4 {k : UInt8} {t : List UInt8} (hk : k.toNat = 4) : readP (k :: t) = readA (k :: t) := by
  have hn : k.toNat ≠ 1 := by omega
  have hn2 : ¬ (k.toNat = 2 ∨ k.toNat = 3) := by omega
  have hok : okK k = true := decide_eq_true (by omega)
  have ep : ptsOf k = [.h, .d] := by unfold ptsOf; rw [if_neg hn, if_neg hn2, if_pos hk]
  have er : rawA k t = { zA with kind := k, height := small22 t 0 8, key := dig22 t 8 } := by unfold rawA; rw [if_neg hn, if_neg hn2, if_pos hk]
  have ef : foldP (ptsOf k) ⟨t, false, { zA with kind := k }⟩ = ⟨dropX 32 (dropX 8 t), (decide (t.length < 8) || decide (1073741824 < numOf (takeX 8 t))) || decide ((dropX 8 t).length < 32), { zA with kind := k, height := (min (numOf (takeX 8 t)) 1073741824 : Nat), key := takeX 32 (dropX 8 t) }⟩ := by
    rw [ep]; simp [foldP, Pt.step]
  rw [(read0 hn).1, (read0 hn).2, ef, er]
  dsimp only
  by_cases hl : t.length = 40 ∧ numOf (t.take 8) ≤ 1073741824
  · obtain ⟨hl, hN⟩ := hl
    have etx : takeX 8 t = t.take 8 := by unfold takeX; rw [if_neg (by omega)]
    have edx : dropX 8 t = t.drop 8 := by unfold dropX; rw [if_neg (by omega)]
    have e32 : takeX 32 (t.drop 8) = t.drop 8 := by unfold takeX; rw [if_neg (by simp; omega), List.take_of_length_le (by simp; omega)]
    have d32' : dropX 32 (t.drop 8) = [] := by unfold dropX; rw [if_neg (by simp; omega), List.drop_eq_nil_of_le (by simp; omega)]
    have edg : dig22 t 8 = t.drop 8 := dig22_full (by omega)
    have esm : small22 t 0 8 = numOf (t.take 8) := small_in (by decide) (by omega) (by omega)
    have hd := (digs_numOf 8 (t.take 8) (by simp; omega) (by decide)).1
    have hm : mayA { zA with kind := k, height := (numOf (t.take 8) : Nat), key := t.drop 8 } = true := by
      refine mayA_of hok (fun e => absurd e hn) ?_ (by unfold rngA; simp [zA]; omega)
      unfold bareA
      rw [if_neg hn, if_neg hn2, if_pos hk]
    have ho : ofA { zA with kind := k, height := (numOf (t.take 8) : Nat), key := t.drop 8 } = k :: t := by
      unfold ofA
      rw [if_neg hn, if_neg hn2, if_pos hk]
      simp only [Int.toNat_natCast]
      rw [hd, List.take_append_drop]
    rw [etx, edx, edg, esm, e32, d32', Nat.min_eq_left hN, if_pos ⟨hok, by simp [hl, hN], rfl⟩, if_pos ⟨hm, ho⟩]
  · rw [if_neg, if_neg]
    · rintro ⟨h0, h⟩
      have hr := mayA_rng h0
      unfold rngA at hr
      dsimp only at hr
      unfold ofA at h
      rw [if_neg hn, if_neg hn2, if_pos hk] at h
      have hlen := congrArg List.length h
      simp only [List.length_cons, List.length_append, digs_length, dig22_len] at hlen
      refine hl ⟨by omega, ?_⟩
      by_cases h3 : t.length < 8 ∨ 2147483648 ≤ numOf (t.take 8)
      · rw [small_out h3] at hr; omega
      · rw [small_in (by decide) (by omega) (by omega)] at hr
        omega
    · rintro ⟨_, h1, h2⟩
      simp only [Bool.or_eq_false_iff, decide_eq_false_iff_not] at h1
      obtain ⟨⟨h3, h4⟩, h5⟩ := h1
      have etx : takeX 8 t = t.take 8 := by unfold takeX; rw [if_neg h3]
      have edx : dropX 8 t = t.drop 8 := by unfold dropX; rw [if_neg h3]
      rw [edx] at h2 h5
      rw [etx] at h4
      unfold dropX at h2
      rw [if_neg h5] at h2
      have := congrArg List.length h2
      simp at this h5
      exact hl ⟨by omega, by omega⟩
theorem read7 {k : UInt8} {t : List UInt8} (hk : k.toNat = 7 ∨ k.toNat = 8) : readP (k :: t) = readA (k :: t) := by
  have hn : k.toNat ≠ 1 := by omega
  have hn2 : ¬ (k.toNat = 2 ∨ k.toNat = 3) := by omega
  have hn4 : ¬ k.toNat = 4 := by omega
  have hok : okK k = true := decide_eq_true (by omega)
  have ep : ptsOf k = [.s] := by unfold ptsOf; rw [if_neg hn, if_neg hn2, if_neg hn4, if_pos hk]
  have er : rawA k t = { zA with kind := k, sub := small22 t 0 4 } := by unfold rawA; rw [if_neg hn, if_neg hn2, if_neg hn4, if_pos hk]
  have ef : foldP (ptsOf k) ⟨t, false, { zA with kind := k }⟩ = ⟨dropX 4 t, decide (t.length < 4) || decide (1073741823 < numOf (takeX 4 t)), { zA with kind := k, sub := (min (numOf (takeX 4 t)) 1073741823 : Nat) }⟩ := by
    rw [ep]; simp [foldP, Pt.step]
  rw [(read0 hn).1, (read0 hn).2, ef, er]
  dsimp only
  by_cases hl : t.length = 4 ∧ numOf (t.take 4) ≤ 1073741823
  · obtain ⟨hl, hN⟩ := hl
    have etx : takeX 4 t = t.take 4 := by unfold takeX; rw [if_neg (by omega)]
    have edx : dropX 4 t = [] := by unfold dropX; rw [if_neg (by omega), List.drop_eq_nil_of_le (by omega)]
    have esm : small22 t 0 4 = numOf (t.take 4) := small_in (by decide) (by omega) (by omega)
    have hd := (digs_numOf 4 (t.take 4) (by simp; omega) (by decide)).1
    have hm : mayA { zA with kind := k, sub := (numOf (t.take 4) : Nat) } = true := by
      refine mayA_of hok (fun e => absurd e hn) ?_ (by unfold rngA; simp [zA]; omega)
      unfold bareA
      rw [if_neg hn, if_neg hn2, if_neg hn4, if_pos hk]
    have ho : ofA { zA with kind := k, sub := (numOf (t.take 4) : Nat) } = k :: t := by
      unfold ofA
      rw [if_neg hn, if_neg hn2, if_neg hn4, if_pos hk]
      simp only [Int.toNat_natCast]
      rw [hd, List.take_of_length_le (by omega)]
    rw [etx, edx, esm, Nat.min_eq_left hN, if_pos ⟨hok, by simp [hl, hN], rfl⟩, if_pos ⟨hm, ho⟩]
  · rw [if_neg, if_neg]
    · rintro ⟨h0, h⟩
      have hr := mayA_rng h0
      unfold rngA at hr
      dsimp only at hr
      unfold ofA at h
      rw [if_neg hn, if_neg hn2, if_neg hn4, if_pos hk] at h
      have hlen := congrArg List.length h
      simp only [List.length_cons, digs_length] at hlen
      refine hl ⟨by omega, ?_⟩
      by_cases h3 : t.length < 4 ∨ 2147483648 ≤ numOf (t.take 4)
      · rw [small_out h3] at hr; omega
      · rw [small_in (by decide) (by omega) (by omega)] at hr
        omega
    · rintro ⟨_, h1, h2⟩
      simp only [Bool.or_eq_false_iff, decide_eq_false_iff_not] at h1
      obtain ⟨h3, h4⟩ := h1
      have etx : takeX 4 t = t.take 4 := by unfold takeX; rw [if_neg h3]
      rw [etx] at h4
      unfold dropX at h2
      rw [if_neg h3] at h2
      have := congrArg List.length h2
      simp at this
      exact hl ⟨by omega, by omega⟩
theorem readN {k : UInt8} {t : List UInt8} (hn : k.toNat ≠ 1) (hn2 : ¬ (k.toNat = 2 ∨ k.toNat = 3)) (hn4 : ¬ k.toNat = 4) (hn7 : ¬ (k.toNat = 7 ∨ k.toNat = 8)) : readP (k :: t) = readA (k :: t) := by
  have ep : ptsOf k = [] := by unfold ptsOf; rw [if_neg hn, if_neg hn2, if_neg hn4, if_neg hn7]
  have er : rawA k t = { zA with kind := k } := by unfold rawA; rw [if_neg hn, if_neg hn2, if_neg hn4, if_neg hn7]
  have ef : foldP (ptsOf k) ⟨t, false, { zA with kind := k }⟩ = ⟨t, false, { zA with kind := k }⟩ := by rw [ep]; rfl
  have eo : ofA { zA with kind := k } = [k] := by unfold ofA; rw [if_neg hn, if_neg hn2, if_neg hn4, if_neg hn7]
  rw [(read0 hn).1, (read0 hn).2, ef, er, eo]
  dsimp only
  by_cases h : okK k = true ∧ t = []
  · obtain ⟨hok, rfl⟩ := h
    have hm : mayA { zA with kind := k } = true := by
      refine mayA_of hok (fun e => absurd e hn) ?_ (by unfold rngA; simp [zA])
      unfold bareA
      rw [if_neg hn, if_neg hn2, if_neg hn4, if_neg hn7]
    rw [if_pos ⟨hok, rfl, rfl⟩, if_pos ⟨hm, rfl⟩]
  · rw [if_neg (fun e => h ⟨e.1, e.2.2⟩), if_neg]
    rintro ⟨h1, h2⟩
    exact h ⟨mayA_k h1, by simpa using h2.symm⟩
theorem readP_eq (b : List UInt8) : readP b = readA b := by
  cases b with
  | nil => rfl
  | cons k t =>
    by_cases h1 : k.toNat = 1
    · exact read1 h1
    by_cases h2 : k.toNat = 2 ∨ k.toNat = 3
    · exact read2 h2
    by_cases h4 : k.toNat = 4
    · exact read4 h4
    by_cases h7 : k.toNat = 7 ∨ k.toNat = 8
    · exact read7 h7
    · exact readN h1 h2 h4 h7
/-- What may be is read back. -/
theorem ofA_back {a : Ask} (h : a.ok) (hm : mayA a = true) : readA (ofA a) = (a, 0) := by
  have h3 := (of_decide_eq_true hm).2.2.1
  have hr := mayA_rng hm
  obtain ⟨r1, r2, r3, r4⟩ := hr
  obtain ⟨k, x, d, hh, ss⟩ := a
  dsimp only at *
  have key : ∀ t, ofA ⟨k, x, d, hh, ss⟩ = k :: t → rawA k t = ⟨k, x, d, hh, ss⟩ → ¬ (k.toNat = 1 ∧ (txRead t).2 = 110) → readA (ofA ⟨k, x, d, hh, ss⟩) = (⟨k, x, d, hh, ss⟩, 0) := fun t e1 e2 e3 => by
    rw [e1, readA, if_neg e3, e2, if_pos ⟨hm, e1⟩]
  by_cases h1 : k.toNat = 1
  · have hs := mayA_s hm h1
    have hb := txOf_bytes h.tx
    dsimp only at hb hs
    have hl : (txBytes x).length = 120 := by
      have := h.tx
      simp [txBytes, txBody, digs_length, this.pub, this.to, this.sign]
    have e : txRead (txBytes x) = (x, 0) := by
      unfold txRead
      rw [if_neg (by omega), if_neg (by omega), hb, if_pos hs]
    refine key (txBytes x) (by unfold ofA; rw [if_pos h1]) ?_ (by rw [e]; rintro ⟨_, h⟩; simp at h)
    unfold rawA bareA at *
    rw [if_pos h1] at h3 ⊢
    rw [e]
    exact h3.symm
  by_cases h2 : k.toNat = 2 ∨ k.toNat = 3
  · refine key d (by unfold ofA; rw [if_neg h1, if_pos h2]) ?_ (fun e => h1 e.1)
    unfold rawA bareA at *
    rw [if_neg h1, if_pos h2] at h3 ⊢
    have hd := h.key
    rw [dig22_full (by simpa using hd), List.drop_zero]
    exact h3.symm
  by_cases h4 : k.toNat = 4
  · refine key (digs hh.toNat 8 ++ d) (by unfold ofA; rw [if_neg h1, if_neg h2, if_pos h4]) ?_ (fun e => h1 e.1)
    unfold rawA bareA at *
    rw [if_neg h1, if_neg h2, if_pos h4] at h3 ⊢
    have hd : d.length = 32 := h.key
    have h8 := digs_length hh.toNat 8
    have et : (digs hh.toNat 8 ++ d).take 8 = digs hh.toNat 8 := List.take_left' h8
    have en : numOf (digs hh.toNat 8) = hh.toNat := numOf_digs 8 _ (by decide) (by omega)
    rw [dig22_full (by simp [h8, hd]), List.drop_left' h8, small_in (by decide) (by simp [h8, hd]) (by rw [et, en]; omega), et, en, Int.toNat_of_nonneg r1]
    exact h3.symm
  by_cases h7 : k.toNat = 7 ∨ k.toNat = 8
  · refine key (digs ss.toNat 4) (by unfold ofA; rw [if_neg h1, if_neg h2, if_neg h4, if_pos h7]) ?_ (fun e => h1 e.1)
    unfold rawA bareA at *
    rw [if_neg h1, if_neg h2, if_neg h4, if_pos h7] at h3 ⊢
    have h8 := digs_length ss.toNat 4
    have et : (digs ss.toNat 4).take 4 = digs ss.toNat 4 := List.take_of_length_le (by omega)
    have en : numOf (digs ss.toNat 4) = ss.toNat := numOf_digs 4 _ (by decide) (by omega)
    rw [small_in (by decide) (by omega) (by rw [et, en]; omega), et, en, Int.toNat_of_nonneg r3]
    exact h3.symm
  · refine key [] (by unfold ofA; rw [if_neg h1, if_neg h2, if_neg h4, if_neg h7]) ?_ (fun e => h1 e.1)
    unfold rawA bareA at *
    rw [if_neg h1, if_neg h2, if_neg h4, if_neg h7] at h3 ⊢
    exact h3.symm
end Go.Proofs.YtcpcbgfnglnkcaaDoor
