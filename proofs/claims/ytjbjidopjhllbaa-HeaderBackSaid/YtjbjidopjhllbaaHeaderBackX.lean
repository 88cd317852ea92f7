/-
  The walk of the law HeaderBack: the law function itself.
-/
import Derived.Test.YtjbjidopjhllbaaHeaderBackW
namespace Go.Proofs.Ytjbjidopjhllbaa.headerBack
open Go.ChangeShapes Go.WideShapes Go.ChangeAt Go.RowKit
set_option linter.unusedSimpArgs false

set_option maxRecDepth 100000 in
set_option maxHeartbeats 3200000 in
theorem walk_zero (r : Hdr) (ho : r.ok) (a : Option Addr) (n cap : Nat) (l : List UInt8) (w : World) (hb : Bts w a n cap l) (hl' : l.length ≤ 300) (p2 : Int) (hp : hdrRead l = (Hdr.zero, p2)) (hz : p2 ≠ 0) :
    Calls Try.prog 8 #[.agg r.cells.toArray, .slice a n cap] w fun e w' => e = .returned (.bool true) ∧ Below w.heap.size w w' := by
  obtain ⟨hn, hcap, _, hc⟩ := hb
  subst hn
  have HP : Hid (hdrRead l = (Hdr.zero, p2)) := hp
  have z1 : (p2 == 0) = false := by simpa using hz
  have z2 : (p2 != 0) = true := by simpa using hz
  clear hp hz
  cases hm : hmay r.height r.many with
  | true =>
    obtain ⟨q1, q2, q3⟩ := back_good ho hm
    obtain ⟨x, hx⟩ : ∃ x, x = (bytesOf r).1 := ⟨_, rfl⟩
    have HB : Hid ((bytesOf r).2 = 0) := q1
    rw [← hx] at q2 q3
    have HX : Hid (x = (bytesOf r).1) := hx
    have HQ : Hid (hdrRead x = (r, 0)) := q2
    have HL : Hid (x.length = 108) := q3
    clear q1 q2 q3 hx hm
    go_enter Try.func8, Try.ntmps8
    go_wp2_with (first | (refine lg (wp_box _ (.tmp 0) rfl r.cells rfl (St.start w) ?_); intro g w1 hs1) | (go_at_call 33; refine (alive14_calls _).mono ?_; rintro e w2 ⟨rfl, hd2⟩; have hs2 := hs1.comp hd2) | (refine lg (wp_loadAgg _ (.tmp 2) rfl _ _ rfl tHeader _ (hs2.rcBlk 0 rfl) (Hdr.len _ ho) ?_)) | (go_at_call 34; refine (bytes_any r ho _).mono ?_; rintro e w3 ⟨a3, c3, he, hq3, hd3⟩; rw [HB.out, ← HX.out, HL.out] at he; rw [← HX.out] at hd3 hq3; subst he; have hs3 := hs2.comp hd3))
    have hr3 := hs3.rcRd 0 rfl
    refine (read_any a3 c3 x _ HL.out.symm hq3 hr3).mono ?_
    rintro e w4 ⟨he, hd4⟩
    rw [HQ.out] at he
    subst he
    have hs4 := hs3.comp hd4
    simp only [List.nil_append, List.cons_append] at hs4
    go_wp2_with (first | (refine lg (wp_alloc _ rfl tHeader hs4 ?_); intro g5 w5 hs5) | (refine lg (wp_storeBlk _ (.tmp 8) (.tmp 31) rfl _ _ rfl tHeader hs5 0 rfl r.cells rfl (Hdr.len _ ho) (Hdr.one _) _ (splice_all _ _ (by rw [Hdr.len _ ho]; rfl)) (by rw [Hdr.len _ ho, Hdr.zero_len]; omega) ?_); intro w6 hs6) | (refine lg (wp_loadAgg _ (.tmp 8) rfl _ _ rfl tHeader _ (hs6.rcBlk 0 rfl) (Hdr.len _ ho) ?_)) | (refine lg (wp_loadAgg _ (.tmp 2) rfl _ _ rfl tHeader _ (hs6.rcBlk 2 rfl) (Hdr.len _ ho) ?_)) | (refine lg (wp_neAgg _ _ (.tmp 39) (.tmp 40) rfl eHeader r.cells r.cells rfl rfl (fits_hdr _ ho) (fits_hdr _ ho) True (by simp) ?_)) | (go_at_call 10; refine (read_any a cap l _ rfl hcap (hc.st hs6)).mono ?_; rintro e w7 ⟨he, hd7⟩; rw [HP.out] at he; subst he; have hs7 := hs6.comp hd7) | (refine lg (wp_alloc _ rfl tHeader hs7 ?_); intro g8 w8 hs8) | (refine lg (wp_storeBlk _ (.tmp 10) (.tmp 67) rfl _ _ rfl tHeader hs8 0 rfl Hdr.zero.cells rfl Hdr.zero_len (Hdr.one _) _ (splice_all _ _ rfl) (Nat.le_refl _) ?_); intro w9 hs9) | (refine lg (wp_loadAgg _ (.tmp 10) rfl _ _ rfl tHeader _ (hs9.rcBlk 0 rfl) Hdr.zero_len ?_)) | (refine lg (wp_build0 _ rfl tHeader fHeader ?_)) | (refine lg (wp_eqAgg _ _ (.tmp 73) (.tmp 74) rfl eHeader Hdr.zero.cells Hdr.zero.cells rfl rfl (fits_hdr _ Hdr_zero_ok) (fits_hdr _ Hdr_zero_ok) True (by simp) ?_)))
    go_ret
    exact ⟨rfl, hs9.below⟩
  | false =>
    have HM : Hid (hmay r.height r.many = false) := hm
    clear hm
    go_enter Try.func8, Try.ntmps8
    go_wp2_with (first | (refine lg (wp_box _ (.tmp 0) rfl r.cells rfl (St.start w) ?_); intro g w1 hs1) | (go_at_call 33; refine (alive14_calls _).mono ?_; rintro e w2 ⟨rfl, hd2⟩; have hs2 := hs1.comp hd2) | (refine lg (wp_loadAgg _ (.tmp 2) rfl _ _ rfl tHeader _ (hs2.rcBlk 0 rfl) (Hdr.len _ ho) ?_)) | (go_at_call 34; refine (hbytes_bad r ho _ HM.out).mono ?_; rintro e w3 ⟨a3, c3, rfl, hq3, hd3⟩; have hs3 := hs2.comp hd3))
    have hr3 := hs3.rcRd 0 rfl
    refine (read_any a3 c3 [] _ rfl hq3 hr3).mono ?_
    rintro e w4 ⟨rfl, hd4⟩
    have hs4 := hs3.comp hd4
    simp only [List.nil_append, List.cons_append] at hs4
    go_wp2_with (first | (refine lg (wp_alloc _ rfl tHeader hs4 ?_); intro g5 w5 hs5) | (refine lg (wp_storeBlk _ (.tmp 8) (.tmp 31) rfl _ _ rfl tHeader hs5 0 rfl Hdr.zero.cells rfl Hdr.zero_len (Hdr.one _) _ (splice_all _ _ rfl) (Nat.le_refl _) ?_); intro w6 hs6) | (refine lg (wp_loadAgg _ (.tmp 2) rfl _ _ rfl tHeader _ (hs6.rcBlk 2 rfl) (Hdr.len _ ho) ?_)) | (go_at_call 35; refine (hcheck_calls r ho _).mono ?_; rintro e w6b ⟨he, hd6⟩; rw [HM.out] at he; subst he; have hs6b := hs6.comp hd6) | (go_at_call 10; refine (read_any a cap l _ rfl hcap (hc.st hs6b)).mono ?_; rintro e w7 ⟨he, hd7⟩; rw [HP.out] at he; subst he; have hs7 := hs6b.comp hd7) | (refine lg (wp_alloc _ rfl tHeader hs7 ?_); intro g8 w8 hs8) | (refine lg (wp_storeBlk _ (.tmp 10) (.tmp 67) rfl _ _ rfl tHeader hs8 0 rfl Hdr.zero.cells rfl Hdr.zero_len (Hdr.one _) _ (splice_all _ _ rfl) (Nat.le_refl _) ?_); intro w9 hs9) | (refine lg (wp_loadAgg _ (.tmp 10) rfl _ _ rfl tHeader _ (hs9.rcBlk 0 rfl) Hdr.zero_len ?_)) | (refine lg (wp_build0 _ rfl tHeader fHeader ?_)) | (refine lg (wp_eqAgg _ _ (.tmp 73) (.tmp 74) rfl eHeader Hdr.zero.cells Hdr.zero.cells rfl rfl (fits_hdr _ Hdr_zero_ok) (fits_hdr _ Hdr_zero_ok) True (by simp) ?_)))
    go_ret
    exact ⟨rfl, hs9.below⟩

set_option maxRecDepth 100000 in
set_option maxHeartbeats 3200000 in
theorem walk_good (r : Hdr) (ho : r.ok) (a : Option Addr) (n cap : Nat) (l : List UInt8) (w : World) (hb : Bts w a n cap l) (hl' : l.length ≤ 300) (p1 : Hdr) (hok : p1.ok) (hp : hdrRead l = (p1, 0)) (hbb : bytesOf p1 = (l, 0)) :
    Calls Try.prog 8 #[.agg r.cells.toArray, .slice a n cap] w fun e w' => e = .returned (.bool true) ∧ Below w.heap.size w w' := by
  obtain ⟨hn, hcap, _, hc⟩ := hb
  subst hn
  have HP : Hid (hdrRead l = (p1, 0)) := hp
  have HBB : Hid (bytesOf p1 = (l, 0)) := hbb
  clear hp hbb
  cases hm : hmay r.height r.many with
  | true =>
    obtain ⟨q1, q2, q3⟩ := back_good ho hm
    obtain ⟨x, hx⟩ : ∃ x, x = (bytesOf r).1 := ⟨_, rfl⟩
    have HB : Hid ((bytesOf r).2 = 0) := q1
    rw [← hx] at q2 q3
    have HX : Hid (x = (bytesOf r).1) := hx
    have HQ : Hid (hdrRead x = (r, 0)) := q2
    have HL : Hid (x.length = 108) := q3
    clear q1 q2 q3 hx hm
    go_enter Try.func8, Try.ntmps8
    go_wp2_with (first | (refine lg (wp_box _ (.tmp 0) rfl r.cells rfl (St.start w) ?_); intro g w1 hs1) | (go_at_call 33; refine (alive14_calls _).mono ?_; rintro e w2 ⟨rfl, hd2⟩; have hs2 := hs1.comp hd2) | (refine lg (wp_loadAgg _ (.tmp 2) rfl _ _ rfl tHeader _ (hs2.rcBlk 0 rfl) (Hdr.len _ ho) ?_)) | (go_at_call 34; refine (bytes_any r ho _).mono ?_; rintro e w3 ⟨a3, c3, he, hq3, hd3⟩; rw [HB.out, ← HX.out, HL.out] at he; rw [← HX.out] at hd3 hq3; subst he; have hs3 := hs2.comp hd3))
    have hr3 := hs3.rcRd 0 rfl
    refine (read_any a3 c3 x _ HL.out.symm hq3 hr3).mono ?_
    rintro e w4 ⟨he, hd4⟩
    rw [HQ.out] at he
    subst he
    have hs4 := hs3.comp hd4
    simp only [List.nil_append, List.cons_append] at hs4
    go_wp2_with (first | (refine lg (wp_alloc _ rfl tHeader hs4 ?_); intro g5 w5 hs5) | (refine lg (wp_storeBlk _ (.tmp 8) (.tmp 31) rfl _ _ rfl tHeader hs5 0 rfl r.cells rfl (Hdr.len _ ho) (Hdr.one _) _ (splice_all _ _ (by rw [Hdr.len _ ho]; rfl)) (by rw [Hdr.len _ ho, Hdr.zero_len]; omega) ?_); intro w6 hs6) | (refine lg (wp_loadAgg _ (.tmp 8) rfl _ _ rfl tHeader _ (hs6.rcBlk 0 rfl) (Hdr.len _ ho) ?_)) | (refine lg (wp_loadAgg _ (.tmp 2) rfl _ _ rfl tHeader _ (hs6.rcBlk 2 rfl) (Hdr.len _ ho) ?_)) | (refine lg (wp_neAgg _ _ (.tmp 39) (.tmp 40) rfl eHeader r.cells r.cells rfl rfl (fits_hdr _ ho) (fits_hdr _ ho) True (by simp) ?_)) | (go_at_call 10; refine (read_any a cap l _ rfl hcap (hc.st hs6)).mono ?_; rintro e w7 ⟨he, hd7⟩; rw [HP.out] at he; subst he; have hs7 := hs6.comp hd7) | (refine lg (wp_alloc _ rfl tHeader hs7 ?_); intro g8 w8 hs8) | (refine lg (wp_storeBlk _ (.tmp 10) (.tmp 67) rfl _ _ rfl tHeader hs8 0 rfl p1.cells rfl (Hdr.len _ hok) (Hdr.one _) _ (splice_all _ _ (by rw [Hdr.len _ hok]; rfl)) (by rw [Hdr.len _ hok, Hdr.zero_len]; omega) ?_); intro w9 hs9) | (refine lg (wp_loadAgg _ (.tmp 10) rfl _ _ rfl tHeader _ (hs9.rcBlk 0 rfl) (Hdr.len _ hok) ?_)) | (go_at_call 34; refine (bytes_any p1 hok _).mono ?_; rintro e w10 ⟨a10, c10, he, hq10, hd10⟩; rw [HBB.out] at he hd10 hq10; subst he; have hs10 := hs9.comp hd10) | (go_at_call 12; refine (same_calls a10 c10 l a cap l _ rfl rfl (hs10.rcRd 0 rfl) (hc.st hs10)).mono ?_; rintro e w11 ⟨rfl, rfl⟩))
    go_ret
    exact ⟨rfl, hs10.below⟩
  | false =>
    have HM : Hid (hmay r.height r.many = false) := hm
    clear hm
    go_enter Try.func8, Try.ntmps8
    go_wp2_with (first | (refine lg (wp_box _ (.tmp 0) rfl r.cells rfl (St.start w) ?_); intro g w1 hs1) | (go_at_call 33; refine (alive14_calls _).mono ?_; rintro e w2 ⟨rfl, hd2⟩; have hs2 := hs1.comp hd2) | (refine lg (wp_loadAgg _ (.tmp 2) rfl _ _ rfl tHeader _ (hs2.rcBlk 0 rfl) (Hdr.len _ ho) ?_)) | (go_at_call 34; refine (hbytes_bad r ho _ HM.out).mono ?_; rintro e w3 ⟨a3, c3, rfl, hq3, hd3⟩; have hs3 := hs2.comp hd3))
    have hr3 := hs3.rcRd 0 rfl
    refine (read_any a3 c3 [] _ rfl hq3 hr3).mono ?_
    rintro e w4 ⟨rfl, hd4⟩
    have hs4 := hs3.comp hd4
    simp only [List.nil_append, List.cons_append] at hs4
    go_wp2_with (first | (refine lg (wp_alloc _ rfl tHeader hs4 ?_); intro g5 w5 hs5) | (refine lg (wp_storeBlk _ (.tmp 8) (.tmp 31) rfl _ _ rfl tHeader hs5 0 rfl Hdr.zero.cells rfl Hdr.zero_len (Hdr.one _) _ (splice_all _ _ rfl) (Nat.le_refl _) ?_); intro w6 hs6) | (refine lg (wp_loadAgg _ (.tmp 2) rfl _ _ rfl tHeader _ (hs6.rcBlk 2 rfl) (Hdr.len _ ho) ?_)) | (go_at_call 35; refine (hcheck_calls r ho _).mono ?_; rintro e w6b ⟨he, hd6⟩; rw [HM.out] at he; subst he; have hs6b := hs6.comp hd6) | (go_at_call 10; refine (read_any a cap l _ rfl hcap (hc.st hs6b)).mono ?_; rintro e w7 ⟨he, hd7⟩; rw [HP.out] at he; subst he; have hs7 := hs6b.comp hd7) | (refine lg (wp_alloc _ rfl tHeader hs7 ?_); intro g8 w8 hs8) | (refine lg (wp_storeBlk _ (.tmp 10) (.tmp 67) rfl _ _ rfl tHeader hs8 0 rfl p1.cells rfl (Hdr.len _ hok) (Hdr.one _) _ (splice_all _ _ (by rw [Hdr.len _ hok]; rfl)) (by rw [Hdr.len _ hok, Hdr.zero_len]; omega) ?_); intro w9 hs9) | (refine lg (wp_loadAgg _ (.tmp 10) rfl _ _ rfl tHeader _ (hs9.rcBlk 0 rfl) (Hdr.len _ hok) ?_)) | (go_at_call 34; refine (bytes_any p1 hok _).mono ?_; rintro e w10 ⟨a10, c10, he, hq10, hd10⟩; rw [HBB.out] at he hd10 hq10; subst he; have hs10 := hs9.comp hd10) | (go_at_call 12; refine (same_calls a10 c10 l a cap l _ rfl rfl (hs10.rcRd 0 rfl) (hc.st hs10)).mono ?_; rintro e w11 ⟨rfl, rfl⟩))
    go_ret
    exact ⟨rfl, hs10.below⟩

set_option maxRecDepth 100000 in
set_option maxHeartbeats 3200000 in
theorem walk (r : Hdr) (ho : r.ok) (a : Option Addr) (n cap : Nat) (l : List UInt8) (w : World) (hb : Bts w a n cap l) :
    Calls Try.prog 8 #[.agg r.cells.toArray, .slice a n cap] w fun e w' => e = .returned (.bool true) ∧ Below w.heap.size w w' := by
  by_cases hl : 300 < l.length
  · obtain ⟨hn, hcap, _, hc⟩ := hb
    subst hn
    go_enter Try.func8, Try.ntmps8
    go_wp2_with (first | (refine lg (wp_box _ (.tmp 0) rfl r.cells rfl (St.start w) ?_); intro g w1 hs1) | (go_at_call 33; refine (alive14_calls _).mono ?_; rintro e w2 ⟨rfl, hd2⟩; have hs2 := hs1.comp hd2))
    go_ret
    exact ⟨rfl, hs2.below⟩
  by_cases hz : (hdrRead l).2 = 0
  · exact walk_good r ho a n cap l w hb (by omega) (hdrRead l).1 (hdrRead_ok l) (by rw [← hz]) (back_read hz)
  · exact walk_zero r ho a n cap l w hb (by omega) (hdrRead l).2 (by rw [← back_zero hz]) hz

end Go.Proofs.Ytjbjidopjhllbaa.headerBack
