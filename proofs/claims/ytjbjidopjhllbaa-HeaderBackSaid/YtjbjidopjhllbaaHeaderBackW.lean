/-
  The walk of the law HeaderBack.
-/
import Derived.Test.YtjbjidopjhllbaaHdrBB
import Derived.Test.YtjbjidopjhllbaaDigs
import Derived.Test.YtjbjidopjhllbaaOpenB
namespace Go.Proofs.Ytjbjidopjhllbaa.headerBack
open Go.ChangeShapes Go.WideShapes Go.ChangeAt Go.RowKit
set_option linter.unusedSimpArgs false

theorem eHeader : EqI Try.prog 27 (some .i64 :: (List.replicate 32 (some .u8) ++ (List.replicate 32 (some .u8) ++ (List.replicate 32 (some .u8) ++ [some .i64])))) := ⟨⟨9, by decide, by kernel_rfl⟩, by kernel_rfl, by kernel_rfl⟩
theorem fits_hdr (h : Hdr) (ho : h.ok) : Fits (some .i64 :: (List.replicate 32 (some .u8) ++ (List.replicate 32 (some .u8) ++ (List.replicate 32 (some .u8) ++ [some .i64])))) h.cells := by
  refine ⟨⟨_, rfl⟩, ?_⟩
  have f1 := fits_bvs h.parent
  have f2 := fits_bvs h.state
  have f3 := fits_bvs h.rows
  rw [ho.1] at f1
  rw [ho.2.1] at f2
  rw [ho.2.2] at f3
  exact f1.append (f2.append (f3.append ⟨⟨_, rfl⟩, trivial⟩))
set_option maxRecDepth 100000 in
theorem hdr_of_fits {cs : List Value} (h : FitsW (some .i64 :: (List.replicate 32 (some .u8) ++ (List.replicate 32 (some .u8) ++ (List.replicate 32 (some .u8) ++ [some .i64])))) cs) : ∃ r : Hdr, r.ok ∧ cs = r.cells := by
  obtain ⟨a, cs, rfl, _, h⟩ := h.cons
  obtain ⟨us, ws, rfl, h1, h2⟩ := h.split
  obtain ⟨l, rfl, hl⟩ := h1.bytes
  obtain ⟨us, ws, rfl, h3, h4⟩ := h2.split
  obtain ⟨m, rfl, hm⟩ := h3.bytes
  obtain ⟨us, ws, rfl, h5, h6⟩ := h4.split
  obtain ⟨r, rfl, hr⟩ := h5.bytes
  obtain ⟨c, xs, rfl, _, h7⟩ := h6.cons
  obtain rfl := h7.nil'
  exact ⟨⟨a, l, m, r, c⟩, ⟨hl, hm, hr⟩, rfl⟩
theorem Hdr_zero_ok : Hdr.zero.ok := ⟨rfl, rfl, rfl⟩
theorem hdrRead_ok (l : List UInt8) : (hdrRead l).1.ok := by
  unfold hdrRead
  split
  · exact ⟨rfl, rfl, rfl⟩
  split
  · exact ⟨rfl, rfl, rfl⟩
  split
  · exact ⟨rfl, rfl, rfl⟩
  · exact ⟨by simp [hdrOf]; omega, by simp [hdrOf]; omega, by simp [hdrOf]; omega⟩

theorem hmay_nat {k m : Int} (h : hmay k m = true) : ∃ a b : Nat, k = a ∧ m = b ∧ a ≤ 1073741824 ∧ b ≤ 256 := by
  simp [hmay] at h
  exact ⟨k.toNat, m.toNat, by omega, by omega, by omega, by omega⟩
theorem hmay_of {a b : Nat} (ha : a ≤ 1073741824) (hb : b ≤ 256) : hmay a b = true := by
  simp [hmay]; omega

/-- What Bytes answers of any header. -/
def bytesOf (h : Hdr) : List UInt8 × Int := if hmay h.height h.many then (hbytes h.height.toNat h.parent h.state h.rows h.many.toNat, 0) else ([], 8)
theorem bytes_any (h : Hdr) (ho : h.ok) (w : World) : Calls Try.prog 34 #[.agg h.cells.toArray] w (RetRE (bytesOf h).1 (bytesOf h).2 w) := by
  cases hm : hmay h.height h.many with
  | false =>
    have := hbytes_bad h ho w hm
    simpa [bytesOf, hm] using this
  | true =>
    obtain ⟨a, b, h1, h2, h3, h4⟩ := hmay_nat hm
    obtain ⟨k, p, s, r, m⟩ := h
    simp only at h1 h2
    subst h1; subst h2
    have := hbytes_calls a p s r b ho.1 ho.2.1 ho.2.2 h3 h4 w
    simpa [bytesOf, hm] using this

theorem hb_take8 (k : Nat) (p s r : List UInt8) (m : Nat) : (hbytes k p s r m).take 8 = digs k 8 := by
  have := digs_length k 8
  simp [hbytes, List.take_append, this]
theorem hb_drop104 (k : Nat) (p s r : List UInt8) (m : Nat) (hp : p.length = 32) (hs : s.length = 32) (hr : r.length = 32) : (hbytes k p s r m).drop 104 = digs m 4 := by
  simp [hbytes, List.drop_append, digs_length, hp, hs, hr, List.drop_eq_nil_of_le]
theorem hb_part (k : Nat) (p s r : List UInt8) (m : Nat) (hp : p.length = 32) (hs : s.length = 32) (hr : r.length = 32) : ((hbytes k p s r m).drop 8).take 32 = p ∧ ((hbytes k p s r m).drop 40).take 32 = s ∧ ((hbytes k p s r m).drop 72).take 32 = r := by
  refine ⟨?_, ?_, ?_⟩
  all_goals simp [hbytes, List.drop_append, List.take_append, digs_length, hp, hs, hr, List.drop_eq_nil_of_le, List.take_of_length_le]
theorem hread_hbytes (k : Nat) (p s r : List UInt8) (m : Nat) (hp : p.length = 32) (hs : s.length = 32) (hr : r.length = 32) (hk : k ≤ 1073741824) (hm : m ≤ 256) : hdrRead (hbytes k p s r m) = (⟨k, p, s, r, m⟩, 0) := by
  have e8 : numOf ((hbytes k p s r m).take 8) = k := by rw [hb_take8, numOf_digs 8 k (by decide) (by omega)]
  have e4 : numOf ((hbytes k p s r m).drop 104) = m := by rw [hb_drop104 k p s r m hp hs hr, numOf_digs 4 m (by decide) (by omega)]
  obtain ⟨q1, q2, q3⟩ := hb_part k p s r m hp hs hr
  rw [hdrRead_good (hbytes_len k p s r m hp hs hr) (by omega) (by omega)]
  simp only [hdrOf, e8, e4, q1, q2, q3]

theorem back_good {r : Hdr} (ho : r.ok) (hm : hmay r.height r.many = true) : (bytesOf r).2 = 0 ∧ hdrRead (bytesOf r).1 = (r, 0) ∧ (bytesOf r).1.length = 108 := by
  obtain ⟨a, b, h1, h2, h3, h4⟩ := hmay_nat hm
  obtain ⟨k, p, s, t, m⟩ := r
  simp only at h1 h2
  subst h1; subst h2
  have e : bytesOf ⟨a, p, s, t, b⟩ = (hbytes a p s t b, 0) := by simp [bytesOf, hm]
  rw [e]
  exact ⟨rfl, hread_hbytes a p s t b ho.1 ho.2.1 ho.2.2 h3 h4, hbytes_len _ _ _ _ _ ho.1 ho.2.1 ho.2.2⟩
theorem hbytes_back (l : List UInt8) (h : l.length = 108) : hbytes (numOf (l.take 8)) ((l.drop 8).take 32) ((l.drop 40).take 32) ((l.drop 72).take 32) (numOf (l.drop 104)) = l := by
  unfold hbytes
  rw [(digs_numOf 8 (l.take 8) (by simp; omega) (by decide)).1, (digs_numOf 4 (l.drop 104) (by simp; omega) (by decide)).1]
  have e1 : l.drop 104 = (l.drop 72).drop 32 := by rw [List.drop_drop]
  have e2 : l.drop 72 = (l.drop 40).drop 32 := by rw [List.drop_drop]
  have e3 : l.drop 40 = (l.drop 8).drop 32 := by rw [List.drop_drop]
  rw [e1, List.take_append_drop, e2, List.take_append_drop, e3, List.take_append_drop, List.take_append_drop]
theorem back_read {l : List UInt8} (h : (hdrRead l).2 = 0) : bytesOf (hdrRead l).1 = (l, 0) := by
  unfold hdrRead at h ⊢
  split at h
  · simp at h
  split at h
  · simp at h
  split at h
  · simp at h
  · rename_i h1 h2 h3
    have hl : l.length = 108 := by omega
    rw [if_neg h1, if_neg h2, if_neg h3]
    have hm : hmay (numOf (l.take 8) : Nat) (numOf (l.drop 104) : Nat) = true := hmay_of (by omega) (by omega)
    simp only [bytesOf, hdrOf, hm, if_true, Int.toNat_natCast]
    rw [hbytes_back l hl]
theorem back_zero {l : List UInt8} (h : (hdrRead l).2 ≠ 0) : (hdrRead l).1 = Hdr.zero := by
  unfold hdrRead at h ⊢
  split
  · rfl
  split
  · rfl
  split
  · rfl
  · rename_i h1 h2 h3
    rw [if_neg h1, if_neg h2, if_neg h3] at h
    exact absurd rfl h

theorem alive_bytes : hbytes 258 (List.replicate 32 0) (List.replicate 32 0) (List.replicate 32 0) 3 = List.replicate 6 (0 : UInt8) ++ (1 : UInt8) :: (2 : UInt8) :: (List.replicate 99 0 ++ [3]) := by decide

set_option maxRecDepth 100000 in
set_option maxHeartbeats 1600000 in
theorem alive14_calls (w : World) : Calls Try.prog 33 #[] w fun e w' => e = .returned (.bool true) ∧ St w w' [] := by
  go_enter Try.func33, Try.ntmps33
  go_wp2_with (first | (refine lg (wp_build _ _ rfl tHeader fHeader [(0, [.int .i64 258]), (4, [.int .i64 3])] rfl (by simp [okS]) (Hdr.cells ⟨(258 : Nat), List.replicate 32 0, List.replicate 32 0, List.replicate 32 0, (3 : Nat)⟩) rfl ?_)) | (go_at_call 34; refine (hbytes_calls 258 (List.replicate 32 0) (List.replicate 32 0) (List.replicate 32 0) 3 rfl rfl rfl (by decide) (by decide) _).mono ?_; rintro e w1 ⟨a1, c1, rfl, hq1, hs1⟩) | (refine lg (wp_make _ _ _ rfl sBytes hs1 108 rfl rfl rfl rfl (by decide) (by simp [maxLen]) ?_); intro g2 w2 hs2) | (refine lg (wp_storeOwn _ (.tmp 13) _ rfl g2 0 6 rfl tByte hs2 0 rfl [.int .u8 1] rfl rfl (fun u hu => by simp at hu; subst hu; rfl) _ rfl (by rw [show (108 * 1) = 108 from rfl, toList_madeCells_one]; simp) ?_); intro w3 hs3) | (refine lg (wp_storeOwn _ (.tmp 14) _ rfl g2 0 7 rfl tByte hs3 0 rfl [.int .u8 2] rfl rfl (fun u hu => by simp at hu; subst hu; rfl) _ rfl (by rw [show (108 * 1) = 108 from rfl, toList_madeCells_one]; simp [splice]) ?_); intro w4 hs4) | (refine lg (wp_storeOwn _ (.tmp 15) _ rfl g2 0 107 rfl tByte hs4 0 rfl [.int .u8 3] rfl rfl (fun u hu => by simp at hu; subst hu; rfl) (bvs (hbytes 258 (List.replicate 32 0) (List.replicate 32 0) (List.replicate 32 0) 3)) (by rw [show (108 * 1) = 108 from rfl, toList_madeCells_one, alive_bytes]; rfl) (by rw [show (108 * 1) = 108 from rfl, toList_madeCells_one]; simp [splice]) ?_); intro w5 hs5))
  refine (same_calls a1 c1 (hbytes 258 (List.replicate 32 0) (List.replicate 32 0) (List.replicate 32 0) 3) _ _ (hbytes 258 (List.replicate 32 0) (List.replicate 32 0) (List.replicate 32 0) 3) _ rfl rfl (hs5.rcRd 1 rfl) (hs5.rcOwn 0 rfl)).mono ?_
  rintro e w6 ⟨rfl, rfl⟩
  go_wp2_with fail
  go_ret
  exact ⟨rfl, (hs5.erase 0).erase 0⟩
end Go.Proofs.Ytjbjidopjhllbaa.headerBack
