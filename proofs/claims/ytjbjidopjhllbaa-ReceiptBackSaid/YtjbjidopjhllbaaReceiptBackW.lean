/-
  The walk of the law ReceiptBack.
-/
import Derived.Test.YtjbjidopjhllbaaRcptC
import Derived.Test.YtjbjidopjhllbaaOpenB
namespace Go.Proofs.Ytjbjidopjhllbaa.receiptBack
open Go.ChangeShapes Go.WideShapes Go.ChangeAt Go.RowKit
set_option linter.unusedSimpArgs false

theorem eRcp : EqI Try.prog 43 (some .u8 :: (List.replicate 32 (some .u8) ++ [some .i64])) := ⟨⟨9, by decide, by kernel_rfl⟩, by kernel_rfl, by kernel_rfl⟩
theorem fits_rcp (r : Rcp) (ho : r.ok) : Fits (some .u8 :: (List.replicate 32 (some .u8) ++ [some .i64])) r.cells := by
  refine ⟨⟨_, rfl⟩, ?_⟩
  have f1 := fits_bvs r.id
  rw [ho.2] at f1
  exact f1.append ⟨⟨_, rfl⟩, trivial⟩
set_option maxRecDepth 100000 in
theorem rcp_of_fits {cs : List Value} (h : FitsW (some .u8 :: (List.replicate 32 (some .u8) ++ [some .i64])) cs) : ∃ r : Rcp, r.ok ∧ cs = r.cells := by
  obtain ⟨a, cs, rfl, hw, h⟩ := h.cons
  obtain ⟨us, ws, rfl, h1, h2⟩ := h.split
  obtain ⟨l, rfl, hl⟩ := h1.bytes
  obtain ⟨c, xs, rfl, _, h3⟩ := h2.cons
  obtain rfl := h3.nil'
  have hb := bounds_u8 hw
  exact ⟨⟨a.toNat, l, c⟩, ⟨by simp only; omega, hl⟩, by simp [Rcp.cells]; omega⟩

theorem digs2 (c : Nat) (hc : c < 65536) : numOf (digs c 2) = c := by
  simp [digs, numOf]
  omega
theorem digs2_back (l : List UInt8) (h : l.length = 2) : digs (numOf l) 2 = l := by
  match l, h with
  | [x, y], _ =>
    have hx := x.toNat_lt
    have hy := y.toNat_lt
    have e : numOf [x, y] = 256 * x.toNat + y.toNat := by simp [numOf]; omega
    rw [e]
    simp only [digs, Nat.pow_one, Nat.pow_zero, Nat.div_one, List.cons.injEq, and_true]
    refine ⟨?_, ?_⟩
    · apply UInt8.toNat_inj.1; rw [UInt8.toNat_ofNat']; omega
    · apply UInt8.toNat_inj.1; rw [UInt8.toNat_ofNat']; omega

theorem rbytes_len (k : Nat) (id : List UInt8) (c : Nat) (hid : id.length = 32) : (rbytes k id c).length = 35 := by simp [rbytes, hid, digs_length]
theorem rcpOf_rbytes (k : Nat) (id : List UInt8) (c : Nat) (hk : k < 256) (hid : id.length = 32) (hc : c < 65536) : rcpOf (rbytes k id c) = ⟨k, id, c⟩ := by
  have e1 : (UInt8.ofNat k).toNat = k := by rw [UInt8.toNat_ofNat']; omega
  have e2 : ((rbytes k id c).drop 1).take 32 = id := by simp [rbytes, ← hid]
  have e3 : ((rbytes k id c).drop 33).take 2 = digs c 2 := by
    have : (rbytes k id c).drop 33 = digs c 2 := by simp [rbytes, hid]
    rw [this, List.take_of_length_le (by rw [digs_length]; omega)]
  simp only [rcpOf, e2, e3, digs2 c hc]
  simp [rbytes, e1]
theorem rcpRead_rbytes (k : Nat) (id : List UInt8) (c : Nat) (hk : k < 256) (hid : id.length = 32) (hc : c < 65536) (hm : rmay k c = true) : rcpRead (rbytes k id c) = (⟨k, id, c⟩, 0) := by
  have e := rcpOf_rbytes k id c hk hid hc
  rw [rcpRead_good (rbytes_len k id c hid) (by rw [e]; exact hm), e]
theorem rbytes_back (l : List UInt8) (h : l.length = 35) : rbytes (l.headD 0).toNat ((l.drop 1).take 32) (numOf ((l.drop 33).take 2)) = l := by
  rw [rbytes, digs2_back _ (by simp; omega)]
  match l, h with
  | x :: l, h =>
    simp only [List.headD_cons, List.drop_succ_cons, List.drop_zero, UInt8.ofNat_toNat]
    congr 1
    rw [List.take_of_length_le (l := l.drop 32) (by simp at h ⊢; omega), List.take_append_drop]
theorem rmay_code {k : Nat} {c : Int} (h : rmay k c = true) : ∃ n : Nat, c = n ∧ n < 65536 := by
  simp only [rmay, Bool.or_eq_true, Bool.and_eq_true, beq_iff_eq] at h
  exact ⟨c.toNat, by omega, by omega⟩

theorem alive_bytes : rbytes 1 (List.replicate 32 0) 151 = (1 : UInt8) :: (List.replicate 33 0 ++ [151]) := by decide

set_option maxRecDepth 100000 in
set_option maxHeartbeats 1600000 in
theorem alive12_calls (w : World) : Calls Try.prog 17 #[] w fun e w' => e = .returned (.bool true) ∧ St w w' [] := by
  go_enter Try.func17, Try.ntmps17
  go_wp2_with (first | (refine lg (wp_build _ _ rfl tRcp fRcp [(0, [.int .u8 1]), (2, [.int .i64 151])] rfl (by simp [okS]) (Rcp.cells ⟨1, List.replicate 32 0, (151 : Nat)⟩) rfl ?_)) | (go_at_call 18; refine (rbytes_calls 1 (List.replicate 32 0) 151 (by decide) rfl (by decide) rfl _).mono ?_; rintro e w1 ⟨a1, c1, rfl, hs1⟩) | (refine lg (wp_make _ _ _ rfl sBytes hs1 35 rfl rfl rfl rfl (by decide) (by simp [maxLen]) ?_); intro g2 w2 hs2) | (refine lg (wp_storeOwn _ (.tmp 12) _ rfl g2 0 0 rfl tByte hs2 0 rfl [.int .u8 1] rfl rfl (fun u hu => by simp at hu; subst hu; rfl) _ rfl (by rw [show (35 * 1) = 35 from rfl, toList_madeCells_one]; simp) ?_); intro w3 hs3) | (refine lg (wp_storeOwn _ (.tmp 13) _ rfl g2 0 34 rfl tByte hs3 0 rfl [.int .u8 151] rfl rfl (fun u hu => by simp at hu; subst hu; rfl) (bvs (rbytes 1 (List.replicate 32 0) 151)) (by rw [show (35 * 1) = 35 from rfl, toList_madeCells_one, alive_bytes]; rfl) (by rw [show (35 * 1) = 35 from rfl, toList_madeCells_one]; simp [splice]) ?_); intro w4 hs4))
  refine (same_calls a1 c1 (rbytes 1 (List.replicate 32 0) 151) _ _ (rbytes 1 (List.replicate 32 0) 151) _ rfl rfl (hs4.rcOwn 1 rfl) (hs4.rcOwn 0 rfl)).mono ?_
  rintro e w5 ⟨rfl, rfl⟩
  go_wp2_with fail
  go_ret
  exact ⟨rfl, (hs4.erase 0).erase 0⟩

/-- What Bytes answers of any receipt. -/
def bytesOf (r : Rcp) : List UInt8 × Int := if rmay r.kind r.code then (rbytes r.kind r.id r.code.toNat, 0) else ([], 8)
theorem bytes_any (r : Rcp) (ho : r.ok) (w : World) : Calls Try.prog 18 #[.agg r.cells.toArray] w (RetBE (bytesOf r).1 (bytesOf r).2 w) := by
  cases hm : rmay r.kind r.code with
  | false =>
    have := rbytes_bad r ho w hm
    simpa [bytesOf, hm] using this
  | true =>
    obtain ⟨n, hn, hlt⟩ := rmay_code hm
    obtain ⟨k, id, c⟩ := r
    simp only at hn
    subst hn
    have := rbytes_calls k id n ho.1 ho.2 hlt hm w
    simpa [bytesOf, hm] using this

/-- The first part of the law: what Read answers of the bytes, at a good receipt, and at a bad one. -/
theorem back_good {r : Rcp} (ho : r.ok) (hm : rmay r.kind r.code = true) : bytesOf r = (rbytes r.kind r.id r.code.toNat, 0) ∧ rcpRead (bytesOf r).1 = (r, 0) ∧ (bytesOf r).1.length = 35 := by
  have e : bytesOf r = (rbytes r.kind r.id r.code.toNat, 0) := by simp [bytesOf, hm]
  obtain ⟨n, hn, hlt⟩ := rmay_code hm
  refine ⟨e, ?_, by rw [e]; exact rbytes_len _ _ _ ho.2⟩
  rw [e, rcpRead_rbytes _ _ _ ho.1 ho.2 (by omega) (by rw [hn]; rw [hn] at hm; simpa using hm)]
  obtain ⟨k, id, c⟩ := r
  simp only at hn
  subst hn
  simp
theorem back_read {l : List UInt8} (h : (rcpRead l).2 = 0) : l.length = 35 ∧ rmay (rcpRead l).1.kind (rcpRead l).1.code = true ∧ (rcpRead l).1.ok ∧ bytesOf (rcpRead l).1 = (l, 0) := by
  unfold rcpRead at h ⊢
  split at h
  · simp at h
  split at h
  · simp at h
  split at h
  · rename_i h1 h2 h3
    have hl : l.length = 35 := by omega
    rw [if_neg h1, if_neg h2, if_pos h3]
    refine ⟨hl, h3, rcpOf_ok l hl, ?_⟩
    simp only [bytesOf, h3, if_true]
    congr 1
    have := rbytes_back l hl
    simpa [rcpOf] using this
  · simp at h
theorem back_zero {l : List UInt8} (h : (rcpRead l).2 ≠ 0) : (rcpRead l).1 = Rcp.zero := by
  unfold rcpRead at h ⊢
  split
  · rfl
  split
  · rfl
  split
  · rename_i h1 h2 h3
    rw [if_neg h1, if_neg h2, if_pos h3] at h
    exact absurd rfl h
  · rfl
theorem read_ok (l : List UInt8) : (rcpRead l).1.ok := by
  unfold rcpRead
  split
  · exact Rcp.zero_ok
  split
  · exact Rcp.zero_ok
  split
  · exact rcpOf_ok l (by omega)
  · exact Rcp.zero_ok

set_option maxRecDepth 100000 in
set_option maxHeartbeats 3200000 in
theorem walk_zero (r : Rcp) (ho : r.ok) (a : Option Addr) (n cap : Nat) (l : List UInt8) (w : World) (hb : Bts w a n cap l) (hl' : l.length ≤ 100) (p2 : Int) (hp : rcpRead l = (Rcp.zero, p2)) (hz : p2 ≠ 0) :
    Calls Try.prog 5 #[.agg r.cells.toArray, .slice a n cap] w fun e w' => e = .returned (.bool true) ∧ Below w.heap.size w w' := by
  obtain ⟨hn, hcap, _, hc⟩ := hb
  subst hn
  have HP : Hid (rcpRead l = (Rcp.zero, p2)) := hp
  have z1 : (p2 == 0) = false := by simpa using hz
  have z2 : (p2 != 0) = true := by simpa using hz
  clear hp hz
  cases hm : rmay r.kind r.code with
  | true =>
    obtain ⟨q1, q2, q3⟩ := back_good ho hm
    obtain ⟨x, hx⟩ : ∃ x, x = (bytesOf r).1 := ⟨_, rfl⟩
    have HB : Hid ((bytesOf r).2 = 0) := by rw [q1]; rfl
    rw [← hx] at q2 q3
    have HX : Hid (x = (bytesOf r).1) := hx
    have HQ : Hid (rcpRead x = (r, 0)) := q2
    have HL : Hid (x.length = 35) := q3
    clear q1 q2 q3 hx hm
    go_enter Try.func5, Try.ntmps5
    go_wp2_with (first | (refine lg (wp_box _ (.tmp 0) rfl r.cells rfl (St.start w) ?_); intro g w1 hs1) | (go_at_call 17; refine (alive12_calls _).mono ?_; rintro e w2 ⟨rfl, hd2⟩; have hs2 := hs1.comp hd2) | (refine lg (wp_loadAgg _ (.tmp 2) rfl _ _ rfl tRcp _ (hs2.rcBlk 0 rfl) (Rcp.len _ ho) ?_)) | (go_at_call 18; refine (bytes_any r ho _).mono ?_; rintro e w3 ⟨a3, c3, he, hd3⟩; rw [HB.out, ← HX.out, HL.out] at he; rw [← HX.out] at hd3; subst he; have hs3 := hs2.comp hd3))
    have hr3 := hs3.rcOwn 0 rfl
    have hq3 := (hs3.ownLen 0 rfl).2.1
    refine (rread_any a3 c3 x _ HL.out.symm hq3 hr3).mono ?_
    rintro e w4 ⟨he, hd4⟩
    rw [HQ.out] at he
    subst he
    have hs4 := hs3.comp hd4
    simp only [List.nil_append, List.cons_append] at hs4
    go_wp2_with (first | (refine lg (wp_alloc _ rfl tRcp hs4 ?_); intro g5 w5 hs5) | (refine lg (wp_storeBlk _ (.tmp 8) (.tmp 31) rfl _ _ rfl tRcp hs5 0 rfl r.cells rfl (Rcp.len _ ho) (Rcp.one _) _ (splice_all _ _ (by rw [Rcp.len _ ho]; rfl)) (by rw [Rcp.len _ ho, Rcp.zero_len]; omega) ?_); intro w6 hs6) | (refine lg (wp_loadAgg _ (.tmp 8) rfl _ _ rfl tRcp _ (hs6.rcBlk 0 rfl) (Rcp.len _ ho) ?_)) | (refine lg (wp_loadAgg _ (.tmp 2) rfl _ _ rfl tRcp _ (hs6.rcBlk 2 rfl) (Rcp.len _ ho) ?_)) | (refine lg (wp_neAgg _ _ (.tmp 39) (.tmp 40) rfl eRcp r.cells r.cells rfl rfl (fits_rcp _ ho) (fits_rcp _ ho) True (by simp) ?_)) | (go_at_call 19; refine (rread_any a cap l _ rfl hcap (hc.st hs6)).mono ?_; rintro e w7 ⟨he, hd7⟩; rw [HP.out] at he; subst he; have hs7 := hs6.comp hd7) | (refine lg (wp_alloc _ rfl tRcp hs7 ?_); intro g8 w8 hs8) | (refine lg (wp_storeBlk _ (.tmp 10) (.tmp 67) rfl _ _ rfl tRcp hs8 0 rfl Rcp.zero.cells rfl Rcp.zero_len (Rcp.one _) _ (splice_all _ _ rfl) (Nat.le_refl _) ?_); intro w9 hs9) | (refine lg (wp_loadAgg _ (.tmp 10) rfl _ _ rfl tRcp _ (hs9.rcBlk 0 rfl) Rcp.zero_len ?_)) | (refine lg (wp_build0 _ rfl tRcp fRcp ?_)) | (refine lg (wp_eqAgg _ _ (.tmp 73) (.tmp 74) rfl eRcp Rcp.zero.cells Rcp.zero.cells rfl rfl (fits_rcp _ Rcp.zero_ok) (fits_rcp _ Rcp.zero_ok) True (by simp) ?_)))
    go_ret
    exact ⟨rfl, hs9.below⟩
  | false =>
    have HM : Hid (rmay r.kind r.code = false) := hm
    clear hm
    go_enter Try.func5, Try.ntmps5
    go_wp2_with (first | (refine lg (wp_box _ (.tmp 0) rfl r.cells rfl (St.start w) ?_); intro g w1 hs1) | (go_at_call 17; refine (alive12_calls _).mono ?_; rintro e w2 ⟨rfl, hd2⟩; have hs2 := hs1.comp hd2) | (refine lg (wp_loadAgg _ (.tmp 2) rfl _ _ rfl tRcp _ (hs2.rcBlk 0 rfl) (Rcp.len _ ho) ?_)) | (go_at_call 18; refine (rbytes_bad r ho _ HM.out).mono ?_; rintro e w3 ⟨a3, c3, rfl, hd3⟩; have hs3 := hs2.comp hd3))
    have hr3 := hs3.rcOwn 0 rfl
    have hq3 := (hs3.ownLen 0 rfl).2.1
    refine (rread_any a3 c3 [] _ rfl hq3 hr3).mono ?_
    rintro e w4 ⟨rfl, hd4⟩
    have hs4 := hs3.comp hd4
    simp only [List.nil_append, List.cons_append] at hs4
    go_wp2_with (first | (refine lg (wp_alloc _ rfl tRcp hs4 ?_); intro g5 w5 hs5) | (refine lg (wp_storeBlk _ (.tmp 8) (.tmp 31) rfl _ _ rfl tRcp hs5 0 rfl Rcp.zero.cells rfl Rcp.zero_len (Rcp.one _) _ (splice_all _ _ rfl) (Nat.le_refl _) ?_); intro w6 hs6) | (refine lg (wp_loadAgg _ (.tmp 2) rfl _ _ rfl tRcp _ (hs6.rcBlk 2 rfl) (Rcp.len _ ho) ?_)) | (go_at_call 20; refine (rcheck_calls r ho _).mono ?_; rintro e w6b ⟨he, hd6⟩; rw [HM.out] at he; subst he; have hs6b := hs6.comp hd6) | (go_at_call 19; refine (rread_any a cap l _ rfl hcap (hc.st hs6b)).mono ?_; rintro e w7 ⟨he, hd7⟩; rw [HP.out] at he; subst he; have hs7 := hs6b.comp hd7) | (refine lg (wp_alloc _ rfl tRcp hs7 ?_); intro g8 w8 hs8) | (refine lg (wp_storeBlk _ (.tmp 10) (.tmp 67) rfl _ _ rfl tRcp hs8 0 rfl Rcp.zero.cells rfl Rcp.zero_len (Rcp.one _) _ (splice_all _ _ rfl) (Nat.le_refl _) ?_); intro w9 hs9) | (refine lg (wp_loadAgg _ (.tmp 10) rfl _ _ rfl tRcp _ (hs9.rcBlk 0 rfl) Rcp.zero_len ?_)) | (refine lg (wp_build0 _ rfl tRcp fRcp ?_)) | (refine lg (wp_eqAgg _ _ (.tmp 73) (.tmp 74) rfl eRcp Rcp.zero.cells Rcp.zero.cells rfl rfl (fits_rcp _ Rcp.zero_ok) (fits_rcp _ Rcp.zero_ok) True (by simp) ?_)))
    go_ret
    exact ⟨rfl, hs9.below⟩

set_option maxRecDepth 100000 in
set_option maxHeartbeats 3200000 in
theorem walk_good (r : Rcp) (ho : r.ok) (a : Option Addr) (n cap : Nat) (l : List UInt8) (w : World) (hb : Bts w a n cap l) (hl' : l.length ≤ 100) (p1 : Rcp) (hok : p1.ok) (hp : rcpRead l = (p1, 0)) (hbb : bytesOf p1 = (l, 0)) :
    Calls Try.prog 5 #[.agg r.cells.toArray, .slice a n cap] w fun e w' => e = .returned (.bool true) ∧ Below w.heap.size w w' := by
  obtain ⟨hn, hcap, _, hc⟩ := hb
  subst hn
  have HP : Hid (rcpRead l = (p1, 0)) := hp
  have HBB : Hid (bytesOf p1 = (l, 0)) := hbb
  clear hp hbb
  cases hm : rmay r.kind r.code with
  | true =>
    obtain ⟨q1, q2, q3⟩ := back_good ho hm
    obtain ⟨x, hx⟩ : ∃ x, x = (bytesOf r).1 := ⟨_, rfl⟩
    have HB : Hid ((bytesOf r).2 = 0) := by rw [q1]; rfl
    rw [← hx] at q2 q3
    have HX : Hid (x = (bytesOf r).1) := hx
    have HQ : Hid (rcpRead x = (r, 0)) := q2
    have HL : Hid (x.length = 35) := q3
    clear q1 q2 q3 hx hm
    go_enter Try.func5, Try.ntmps5
    go_wp2_with (first | (refine lg (wp_box _ (.tmp 0) rfl r.cells rfl (St.start w) ?_); intro g w1 hs1) | (go_at_call 17; refine (alive12_calls _).mono ?_; rintro e w2 ⟨rfl, hd2⟩; have hs2 := hs1.comp hd2) | (refine lg (wp_loadAgg _ (.tmp 2) rfl _ _ rfl tRcp _ (hs2.rcBlk 0 rfl) (Rcp.len _ ho) ?_)) | (go_at_call 18; refine (bytes_any r ho _).mono ?_; rintro e w3 ⟨a3, c3, he, hd3⟩; rw [HB.out, ← HX.out, HL.out] at he; rw [← HX.out] at hd3; subst he; have hs3 := hs2.comp hd3))
    have hr3 := hs3.rcOwn 0 rfl
    have hq3 := (hs3.ownLen 0 rfl).2.1
    refine (rread_any a3 c3 x _ HL.out.symm hq3 hr3).mono ?_
    rintro e w4 ⟨he, hd4⟩
    rw [HQ.out] at he
    subst he
    have hs4 := hs3.comp hd4
    simp only [List.nil_append, List.cons_append] at hs4
    go_wp2_with (first | (refine lg (wp_alloc _ rfl tRcp hs4 ?_); intro g5 w5 hs5) | (refine lg (wp_storeBlk _ (.tmp 8) (.tmp 31) rfl _ _ rfl tRcp hs5 0 rfl r.cells rfl (Rcp.len _ ho) (Rcp.one _) _ (splice_all _ _ (by rw [Rcp.len _ ho]; rfl)) (by rw [Rcp.len _ ho, Rcp.zero_len]; omega) ?_); intro w6 hs6) | (refine lg (wp_loadAgg _ (.tmp 8) rfl _ _ rfl tRcp _ (hs6.rcBlk 0 rfl) (Rcp.len _ ho) ?_)) | (refine lg (wp_loadAgg _ (.tmp 2) rfl _ _ rfl tRcp _ (hs6.rcBlk 2 rfl) (Rcp.len _ ho) ?_)) | (refine lg (wp_neAgg _ _ (.tmp 39) (.tmp 40) rfl eRcp r.cells r.cells rfl rfl (fits_rcp _ ho) (fits_rcp _ ho) True (by simp) ?_)) | (go_at_call 19; refine (rread_any a cap l _ rfl hcap (hc.st hs6)).mono ?_; rintro e w7 ⟨he, hd7⟩; rw [HP.out] at he; subst he; have hs7 := hs6.comp hd7) | (refine lg (wp_alloc _ rfl tRcp hs7 ?_); intro g8 w8 hs8) | (refine lg (wp_storeBlk _ (.tmp 10) (.tmp 67) rfl _ _ rfl tRcp hs8 0 rfl p1.cells rfl (Rcp.len _ hok) (Rcp.one _) _ (splice_all _ _ (by rw [Rcp.len _ hok]; rfl)) (by rw [Rcp.len _ hok, Rcp.zero_len]; omega) ?_); intro w9 hs9) | (refine lg (wp_loadAgg _ (.tmp 10) rfl _ _ rfl tRcp _ (hs9.rcBlk 0 rfl) (Rcp.len _ hok) ?_)) | (go_at_call 18; refine (bytes_any p1 hok _).mono ?_; rintro e w10 ⟨a10, c10, he, hd10⟩; rw [HBB.out] at he hd10; subst he; have hs10 := hs9.comp hd10) | (go_at_call 12; refine (same_calls a10 c10 l a cap l _ rfl rfl (hs10.rcOwn 0 rfl) (hc.st hs10)).mono ?_; rintro e w11 ⟨rfl, rfl⟩))
    go_ret
    exact ⟨rfl, hs10.below⟩
  | false =>
    have HM : Hid (rmay r.kind r.code = false) := hm
    clear hm
    go_enter Try.func5, Try.ntmps5
    go_wp2_with (first | (refine lg (wp_box _ (.tmp 0) rfl r.cells rfl (St.start w) ?_); intro g w1 hs1) | (go_at_call 17; refine (alive12_calls _).mono ?_; rintro e w2 ⟨rfl, hd2⟩; have hs2 := hs1.comp hd2) | (refine lg (wp_loadAgg _ (.tmp 2) rfl _ _ rfl tRcp _ (hs2.rcBlk 0 rfl) (Rcp.len _ ho) ?_)) | (go_at_call 18; refine (rbytes_bad r ho _ HM.out).mono ?_; rintro e w3 ⟨a3, c3, rfl, hd3⟩; have hs3 := hs2.comp hd3))
    have hr3 := hs3.rcOwn 0 rfl
    have hq3 := (hs3.ownLen 0 rfl).2.1
    refine (rread_any a3 c3 [] _ rfl hq3 hr3).mono ?_
    rintro e w4 ⟨rfl, hd4⟩
    have hs4 := hs3.comp hd4
    simp only [List.nil_append, List.cons_append] at hs4
    go_wp2_with (first | (refine lg (wp_alloc _ rfl tRcp hs4 ?_); intro g5 w5 hs5) | (refine lg (wp_storeBlk _ (.tmp 8) (.tmp 31) rfl _ _ rfl tRcp hs5 0 rfl Rcp.zero.cells rfl Rcp.zero_len (Rcp.one _) _ (splice_all _ _ rfl) (Nat.le_refl _) ?_); intro w6 hs6) | (refine lg (wp_loadAgg _ (.tmp 2) rfl _ _ rfl tRcp _ (hs6.rcBlk 2 rfl) (Rcp.len _ ho) ?_)) | (go_at_call 20; refine (rcheck_calls r ho _).mono ?_; rintro e w6b ⟨he, hd6⟩; rw [HM.out] at he; subst he; have hs6b := hs6.comp hd6) | (go_at_call 19; refine (rread_any a cap l _ rfl hcap (hc.st hs6b)).mono ?_; rintro e w7 ⟨he, hd7⟩; rw [HP.out] at he; subst he; have hs7 := hs6b.comp hd7) | (refine lg (wp_alloc _ rfl tRcp hs7 ?_); intro g8 w8 hs8) | (refine lg (wp_storeBlk _ (.tmp 10) (.tmp 67) rfl _ _ rfl tRcp hs8 0 rfl p1.cells rfl (Rcp.len _ hok) (Rcp.one _) _ (splice_all _ _ (by rw [Rcp.len _ hok]; rfl)) (by rw [Rcp.len _ hok, Rcp.zero_len]; omega) ?_); intro w9 hs9) | (refine lg (wp_loadAgg _ (.tmp 10) rfl _ _ rfl tRcp _ (hs9.rcBlk 0 rfl) (Rcp.len _ hok) ?_)) | (go_at_call 18; refine (bytes_any p1 hok _).mono ?_; rintro e w10 ⟨a10, c10, he, hd10⟩; rw [HBB.out] at he hd10; subst he; have hs10 := hs9.comp hd10) | (go_at_call 12; refine (same_calls a10 c10 l a cap l _ rfl rfl (hs10.rcOwn 0 rfl) (hc.st hs10)).mono ?_; rintro e w11 ⟨rfl, rfl⟩))
    go_ret
    exact ⟨rfl, hs10.below⟩

set_option maxRecDepth 100000 in
set_option maxHeartbeats 3200000 in
theorem walk (r : Rcp) (ho : r.ok) (a : Option Addr) (n cap : Nat) (l : List UInt8) (w : World) (hb : Bts w a n cap l) :
    Calls Try.prog 5 #[.agg r.cells.toArray, .slice a n cap] w fun e w' => e = .returned (.bool true) ∧ Below w.heap.size w w' := by
  by_cases hl : 100 < l.length
  · obtain ⟨hn, hcap, _, hc⟩ := hb
    subst hn
    go_enter Try.func5, Try.ntmps5
    go_wp2_with (first | (refine lg (wp_box _ (.tmp 0) rfl r.cells rfl (St.start w) ?_); intro g w1 hs1) | (go_at_call 17; refine (alive12_calls _).mono ?_; rintro e w2 ⟨rfl, hd2⟩; have hs2 := hs1.comp hd2))
    go_ret
    exact ⟨rfl, hs2.below⟩
  by_cases hz : (rcpRead l).2 = 0
  · obtain ⟨q1, q2, q3, q4⟩ := back_read hz
    exact walk_good r ho a n cap l w hb (by omega) (rcpRead l).1 q3 (by rw [← hz]) q4
  · exact walk_zero r ho a n cap l w hb (by omega) (rcpRead l).2 (by rw [← back_zero hz]) hz

end Go.Proofs.Ytjbjidopjhllbaa.receiptBack
