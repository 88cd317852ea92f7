/-
  The reference's reader of headers.
-/
import Derived.Test.YtjbjidopjhllbaaHead
namespace Go.Proofs.Ytjbjidopjhllbaa
open Go Go.RowKit

set_option maxRecDepth 100000 in
set_option maxHeartbeats 400000 in
theorem read14_calls (a : Option Addr) (cap : Nat) (l : List UInt8) (w : World) {n : Nat} (hn : n = l.length) (hl : l.length = 108) (hcap : l.length ≤ cap) (hc : Rc w a (bvs l)) :
    Calls Try.prog 11 #[.slice a n cap] w (RetHdr (hdrRead l) w) := by
  subst hn
  obtain ⟨b, off, rfl⟩ := hc.some (by omega)
  have hl1 : 108 ≤ l.length := by omega
  have hl2 : l.length ≤ 108 := by omega
  have HL : Hid (l.length = 108) := hl
  clear hl
  go_enter Try.func11, Try.ntmps11
  go_wp2_with (first | (refine lg (wp_alloc _ rfl tHeader (St.start w) ?_); intro g1 w1 hs1))
  have hc1 := hc.st hs1
  have hcA := hc1.takeB 8
  have hcB := hc1.dropB 104
  go_quiet ((go_at_call 37; first | with_reducible exact quietC (number_calls (some ⟨b, off, none⟩) _ (l.take 8) _ (by simp; omega) (by simp; omega) (hcA.drewN _)) | exact quietC (number_calls (some ⟨b, off + 104, none⟩) _ (l.drop 104) _ (by simp) (by simp; omega) (hcB.drewN _))))
  have hs2 := hs1.drewN
  by_cases hA : 1073741824 < numOf (l.take 8)
  · go_wp2_with (first | (refine lg (wp_build0 _ rfl tHeader fHeader ?_)) | (refine lg (wp_storeBlk _ (.tmp 2) (.tmp 26) rfl _ _ rfl tHeader (hs2 _) 0 rfl Hdr.zero.cells rfl Hdr.zero_len Hdr.zero_one _ (splice_all _ _ rfl) (Nat.le_refl _) ?_); intro w3 hs3))
    exact bodyPost_ret (results2 rfl (rvBlk hs3 0 rfl rfl tHeader Hdr.zero_len) rfl) rfl ⟨by rw [hdrRead_bad HL (.inl hA)]; rfl, hs3.erase 0⟩
  by_cases hB : 256 < numOf (l.drop 104)
  · go_wp2_with (first | (refine lg (wp_build0 _ rfl tHeader fHeader ?_)) | (refine lg (wp_storeBlk _ (.tmp 2) (.tmp 26) rfl _ _ rfl tHeader (hs2 _) 0 rfl Hdr.zero.cells rfl Hdr.zero_len Hdr.zero_one _ (splice_all _ _ rfl) (Nat.le_refl _) ?_); intro w3 hs3))
    exact bodyPost_ret (results2 rfl (rvBlk hs3 0 rfl rfl tHeader Hdr.zero_len) rfl) rfl ⟨by rw [hdrRead_bad HL (.inr hB)]; rfl, hs3.erase 0⟩
  have g1 : numOf (l.take 8) ≤ 1073741824 := by omega
  have g2 : numOf (l.drop 104) ≤ 256 := by omega
  go_wp2_with fail
  refine (digest14_calls _ _ l 8 _ rfl (by omega) (by omega) (hc1.drewN _)).mono ?_
  rintro e w2 ⟨rfl, hd1⟩
  have hs3 := (hs2 _).comp hd1
  go_wp2_with fail
  refine (digest14_calls _ _ l 40 _ rfl (by omega) (by omega) (hc.st hs3)).mono ?_
  rintro e w3 ⟨rfl, hd2⟩
  have hs4 := hs3.comp hd2
  go_wp2_with fail
  refine (digest14_calls _ _ l 72 _ rfl (by omega) (by omega) (hc.st hs4)).mono ?_
  rintro e w4 ⟨rfl, hd3⟩
  have hs5 := hs4.comp hd3
  have ho : (hdrOf l).ok := ⟨by simp [hdrOf]; omega, by simp [hdrOf]; omega, by simp [hdrOf]; omega⟩
  go_wp2_with (first | (refine lg (wp_buildAll _ _ rfl tHeader fHeader [[.int .i64 (numOf (l.take 8))], bvs ((l.drop 8).take 32), bvs ((l.drop 40).take 32), bvs ((l.drop 72).take 32), [.int .i64 (numOf (l.drop 104))]] rfl (by simp [plOf]; omega) (by simp; omega) (hdrOf l).cells (by simp [hdrOf, Hdr.cells]) ?_)) | (refine lg (wp_storeBlk _ (.tmp 2) (.tmp 37) rfl _ _ rfl tHeader hs5 0 rfl (hdrOf l).cells rfl (Hdr.len _ ho) (Hdr.one _) _ (splice_all _ _ (by rw [Hdr.len _ ho, Hdr.zero_len])) (by rw [Hdr.len _ ho, Hdr.zero_len]; omega) ?_); intro w5 hs6))
  exact bodyPost_ret (results2 rfl (rvBlk hs6 0 rfl rfl tHeader (Hdr.len _ ho)) rfl) rfl ⟨by rw [hdrRead_good HL hA hB]; rfl, hs6.erase 0⟩

theorem read14_any (a : Option Addr) (cap : Nat) (l : List UInt8) (w : World) {n : Nat} (hn : n = l.length) (hcap : l.length ≤ cap) (hc : Rc w a (bvs l)) :
    Calls Try.prog 11 #[.slice a n cap] w (RetHdr (hdrRead l) w) := by
  by_cases h1 : l.length < 108
  · have := read14_short a cap l w hn h1
    rwa [← hdrRead_short h1] at this
  by_cases h2 : 108 < l.length
  · have := read14_long a cap l w hn h2
    rwa [← hdrRead_long h2] at this
  exact read14_calls a cap l w hn (by omega) hcap hc

end Go.Proofs.Ytjbjidopjhllbaa
