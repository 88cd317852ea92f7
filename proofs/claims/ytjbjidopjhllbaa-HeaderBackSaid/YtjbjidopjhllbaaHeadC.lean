/-
  The program's reader of headers.
-/
import Derived.Test.YtjbjidopjhllbaaHeadB
namespace Go.Proofs.Ytjbjidopjhllbaa
open Go Go.RowKit

theorem tPtrs3 : TyI Try.prog 71 true 3 24 [.pointer none, .pointer none, .pointer none] := TyI.of (zv := .agg #[.pointer none, .pointer none, .pointer none]) (by kernel_rfl) (by kernel_rfl) rfl rfl (by decide)
theorem tPtr : TyI Try.prog 70 false 1 8 [.pointer none] := TyI.of (zv := .pointer none) (by kernel_rfl) (by kernel_rfl) rfl rfl (by decide)

set_option maxRecDepth 100000 in
set_option maxHeartbeats 400000 in
theorem read_short (a : Option Addr) (cap : Nat) (l : List UInt8) (w : World) {n : Nat} (hn : n = l.length) (hl : l.length < 108) :
    Calls Try.prog 10 #[.slice a n cap] w (RetHdr (Hdr.zero, 10) w) := by
  subst hn
  go_enter Try.func10, Try.ntmps10
  go_wp2_with (first | (refine lg (wp_alloc _ rfl tHeader (St.start w) ?_); intro g1 w1 hs1) | (refine lg (wp_loadAgg _ (.tmp 2) rfl _ _ rfl tHeader _ (hs1.rcBlk 0 rfl) Hdr.zero_len ?_)) | (refine lg (wp_storeBlk _ (.tmp 2) (.tmp 17) rfl _ _ rfl tHeader hs1 0 rfl Hdr.zero.cells rfl Hdr.zero_len Hdr.zero_one _ (splice_all _ _ rfl) (Nat.le_refl _) ?_); intro w3 hs3))
  exact bodyPost_ret (results2 rfl (rvBlk hs3 0 rfl rfl tHeader Hdr.zero_len) rfl) rfl ⟨rfl, hs3.erase 0⟩

set_option maxRecDepth 100000 in
set_option maxHeartbeats 400000 in
theorem read_long (a : Option Addr) (cap : Nat) (l : List UInt8) (w : World) {n : Nat} (hn : n = l.length) (hl : 108 < l.length) :
    Calls Try.prog 10 #[.slice a n cap] w (RetHdr (Hdr.zero, 11) w) := by
  subst hn
  go_enter Try.func10, Try.ntmps10
  go_wp2_with (first | (refine lg (wp_alloc _ rfl tHeader (St.start w) ?_); intro g1 w1 hs1) | (refine lg (wp_loadAgg _ (.tmp 2) rfl _ _ rfl tHeader _ (hs1.rcBlk 0 rfl) Hdr.zero_len ?_)) | (refine lg (wp_storeBlk _ (.tmp 2) (.tmp 22) rfl _ _ rfl tHeader hs1 0 rfl Hdr.zero.cells rfl Hdr.zero_len Hdr.zero_one _ (splice_all _ _ rfl) (Nat.le_refl _) ?_); intro w3 hs3))
  exact bodyPost_ret (results2 rfl (rvBlk hs3 0 rfl rfl tHeader Hdr.zero_len) rfl) rfl ⟨rfl, hs3.erase 0⟩

/-- The cells of the header while its digests are filled in: k of them are there. -/
def fillH (l : List UInt8) (k : Nat) : List Value := .int .i64 0 :: (bvs ((l.drop 8).take (32 * k) ++ List.replicate (96 - 32 * k) 0) ++ [.int .i64 0])
theorem fillH_len (l : List UInt8) (k : Nat) (hl : l.length = 108) (hk : k ≤ 3) : (fillH l k).length = 98 := by simp [fillH]; omega
theorem fillH_zero (l : List UInt8) : fillH l 0 = Hdr.zero.cells := by simp [fillH, Hdr.zero, Hdr.cells, bvs]
theorem fillH_step (l : List UInt8) (k : Nat) (hl : l.length = 108) (hk : k < 3) : splice (fillH l k) (1 + 32 * k) (bvs ((l.drop (8 + 32 * k)).take 32)) = fillH l (k + 1) := by
  have e1 : fillH l k = (.int .i64 0 :: bvs ((l.drop 8).take (32 * k))) ++ (bvs (List.replicate 32 0) ++ (bvs (List.replicate (96 - 32 * (k + 1)) 0) ++ [.int .i64 0])) := by
    rw [fillH, show 96 - 32 * k = 32 + (96 - 32 * (k + 1)) by omega, ← List.replicate_append_replicate, bvs_append, bvs_append]
    simp
  rw [e1, splice_mid _ _ _ _ _ (by simp; omega) (by simp; omega), fillH, show 32 * (k + 1) = 32 * k + 32 by omega, List.take_add, bvs_append, bvs_append, List.drop_drop]
  simp
def fillH1 (l : List UInt8) : List Value := .int .i64 (numOf (l.take 8)) :: (bvs ((l.drop 8).take 96) ++ [.int .i64 0])
theorem fillH_one (l : List UInt8) : splice (fillH l 3) 0 [.int .i64 (numOf (l.take 8))] = fillH1 l := by simp [splice, fillH, fillH1]
theorem fillH_two (l : List UInt8) (hl : l.length = 108) : splice (fillH1 l) 97 [.int .i64 (numOf (l.drop 104))] = (hdrOf l).cells := by
  have := splice_mid (.int .i64 (numOf (l.take 8)) :: bvs ((l.drop 8).take 96)) [.int .i64 0] [] [.int .i64 (numOf (l.drop 104))] 97 (by simp; omega) rfl
  rw [List.append_nil] at this
  rw [fillH1, show (Value.int .i64 (numOf (l.take 8)) :: (bvs ((l.drop 8).take 96) ++ [.int .i64 0])) = .int .i64 (numOf (l.take 8)) :: bvs ((l.drop 8).take 96) ++ [.int .i64 0] from rfl, this]
  simp only [hdrOf, Hdr.cells, show (96 : Nat) = 32 + (32 + 32) from rfl, List.take_add, bvs_append, List.drop_drop]
  simp
theorem fillH1_len (l : List UInt8) (hl : l.length = 108) : (fillH1 l).length = 98 := by simp [fillH1]; omega

theorem ptrs_get (g : Nat) (k : Nat) (hk : k < 3) : ([.pointer (some ⟨g, 1, none⟩), .pointer (some ⟨g, 33, none⟩), .pointer (some ⟨g, 65, none⟩)] : List Value)[k]? = some (.pointer (some ⟨g, 1 + 32 * k, none⟩)) := by
  match k, hk with
  | 0, _ => rfl
  | 1, _ => rfl
  | 2, _ => rfl

set_option maxRecDepth 100000 in
set_option maxHeartbeats 1600000 in
theorem read_calls (a : Option Addr) (cap : Nat) (l : List UInt8) (w : World) {n : Nat} (hn : n = l.length) (hl : l.length = 108) (hcap : l.length ≤ cap) (hc : Rc w a (bvs l)) :
    Calls Try.prog 10 #[.slice a n cap] w (RetHdr (hdrRead l) w) := by
  subst hn
  have hl1 : 108 ≤ l.length := by omega
  have hl2 : l.length ≤ 108 := by omega
  have HL : Hid (l.length = 108) := hl
  clear hl
  go_enter Try.func10, Try.ntmps10
  go_wp2_with (first | (refine lg (wp_alloc _ rfl tHeader (St.start w) ?_); intro g1 w1 hs1) | (go_at_call 36; refine (take_calls a cap l 8 rfl (by omega) (by omega) (by omega) hcap _ (by omega) (hc.st hs1)).mono ?_; rintro e w2 ⟨ar, cr, rfl, ht2⟩; have hs2 := hs1.comp ht2) | (refine lg (wp_alloc _ rfl tPtrs3 hs2 ?_); intro g3 w3 hs3) | (refine lg (wp_storeBlk _ (.tmp 7) (.tmp 32) rfl _ _ rfl tPtrs3 hs3 0 rfl [.pointer (some ⟨g1, 1, none⟩), .pointer (some ⟨g1, 33, none⟩), .pointer (some ⟨g1, 65, none⟩)] rfl rfl (fun u hu => by simp at hu; rcases hu with rfl | rfl | rfl <;> rfl) _ (splice_all _ _ rfl) (Nat.le_refl _) ?_); intro w4 hs4))
  simp only [List.set_cons_zero, List.cons_append, List.nil_append] at hs4
  clear hs1 hs2 hs3 ht2
  rw [← fillH_zero l] at hs4
  go_loopw [5, 33] (fun v5 v33 wr => ∃ k : Nat, k ≤ 3 ∧ v33 = .int .i64 k ∧ ∃ a' c', v5 = .slice a' (100 - 32 * k) c' ∧ Hid (∀ W, Rc W ar (bvs (l.drop 8)) → Rc W a' (bvs (l.drop (8 + 32 * k)))) ∧ 100 - 32 * k ≤ c' ∧ St w wr [blk g3 71 [.pointer (some ⟨g1, 1, none⟩), .pointer (some ⟨g1, 33, none⟩), .pointer (some ⟨g1, 65, none⟩)], ownB ar cr (l.drop 8), blk g1 27 (fillH l k)]) (fun _ v33 _ => 3 - (intOf v33).toNat)
  case atStart => exact ⟨0, by omega, rfl, ar, cr, sl_eq (by omega), fun _ h => h, by have := (hs4.ownLen 1 rfl).2.1; simp at this; omega, hs4⟩
  case round =>
    obtain ⟨k, hk, rfl, a', c', rfl, hra, hcc, hs⟩ := hrel
    clear hs4
    have hrw := hra.out _ (hs.rcOwn 1 rfl)
    by_cases hlt : k < 3
    · have hcell := hs.cellBlk 0 rfl k (ptrs_get g1 k hlt)
      go_wp2_with (first | (refine lg (wp_load1 _ (.tmp 37) rfl _ _ rfl tPtr _ hcell ?_)) | (refine lg (wp_copyBlk (.tmp 40) (.tmp 41) _ _ rfl sBytes hs 2 rfl rfl rfl (bvs ((l.drop (8 + 32 * k)).take 32)) (by simp; omega) (hrw.takeB 32) (bvs_one _) _ (fillH_step l k HL hlt) (by rw [fillH_len l k HL hk]; simp; omega) ?_); intro w5 hs5) | (refine lg (wp_slice _ (.tmp 43) (some (.tmp 44)) none none rfl sBytes rfl 32 (100 - 32 * k) c' ⟨_, _, rfl, by omega⟩ rfl rfl (by simp) (by omega) hcc (Nat.le_refl _) ?_)))
      go_roundw
      case rel => exact ⟨k + 1, by omega, by go_num, subA a' 32 c' 1, c' - 32, sl_eq (by omega), fun W hW => by
        have := (hra.out W hW).cutTo 32 c' (by simp; omega)
        rwa [List.drop_drop] at this, by omega, hs5⟩
      case measure => simp [intOf]; omega
    · obtain rfl : k = 3 := by omega
      have hrw4 : Rc wr a' (bvs (l.drop 104)) := hrw
      have HN : Hid (numOf ((l.drop 104).take 4) = numOf (l.drop 104)) := by show _ = _; rw [List.take_of_length_le (by simp; omega)]
      by_cases hA : 1073741824 < numOf (l.take 8)
      · go_wp2_with (first | (go_at_call 36; refine (take_calls a' c' (l.drop 104) 4 (by simp; omega) (by omega) (by omega) (by simp; omega) (by simp; omega) _ (by simp; omega) hrw4).mono ?_; rintro e w6 ⟨ar2, cr2, rfl, ht6⟩; have hs6 := hs.comp ht6) | (refine lg (wp_build0 _ rfl tHeader fHeader ?_)) | (refine lg (wp_storeBlk _ (.tmp 2) (.tmp 59) rfl _ _ rfl tHeader hs6 3 rfl Hdr.zero.cells rfl Hdr.zero_len Hdr.zero_one _ (splice_all _ _ (by rw [fillH_len l 3 HL (by omega)]; rfl)) (by rw [fillH_len l 3 HL (by omega)]; exact Nat.le_refl _) ?_); intro w7 hs7))
        exact bodyPost_ret (results2 rfl (rvBlk hs7 3 rfl rfl tHeader Hdr.zero_len) rfl) rfl ⟨by rw [hdrRead_bad HL (.inl hA)]; rfl, ((((hs7.erase 0).erase 0).erase 0).erase 0)⟩
      by_cases hB : 256 < numOf ((l.drop 104).take 4)
      · go_wp2_with (first | (go_at_call 36; refine (take_calls a' c' (l.drop 104) 4 (by simp; omega) (by omega) (by omega) (by simp; omega) (by simp; omega) _ (by simp; omega) hrw4).mono ?_; rintro e w6 ⟨ar2, cr2, rfl, ht6⟩; have hs6 := hs.comp ht6) | (refine lg (wp_build0 _ rfl tHeader fHeader ?_)) | (refine lg (wp_storeBlk _ (.tmp 2) (.tmp 59) rfl _ _ rfl tHeader hs6 3 rfl Hdr.zero.cells rfl Hdr.zero_len Hdr.zero_one _ (splice_all _ _ (by rw [fillH_len l 3 HL (by omega)]; rfl)) (by rw [fillH_len l 3 HL (by omega)]; exact Nat.le_refl _) ?_); intro w7 hs7))
        exact bodyPost_ret (results2 rfl (rvBlk hs7 3 rfl rfl tHeader Hdr.zero_len) rfl) rfl ⟨by rw [hdrRead_bad HL (.inr (by rw [← HN.out]; exact hB))]; rfl, ((((hs7.erase 0).erase 0).erase 0).erase 0)⟩
      have q1 : numOf (l.take 8) ≤ 1073741824 := by omega
      have q2 : numOf ((l.drop 104).take 4) ≤ 256 := by omega
      have ho : (hdrOf l).ok := ⟨by simp [hdrOf]; omega, by simp [hdrOf]; omega, by simp [hdrOf]; omega⟩
      go_wp2_with (first | (go_at_call 36; refine (take_calls a' c' (l.drop 104) 4 (by simp; omega) (by omega) (by omega) (by simp; omega) (by simp; omega) _ (by simp; omega) hrw4).mono ?_; rintro e w6 ⟨ar2, cr2, rfl, ht6⟩; have hs6 := hs.comp ht6) | (refine lg (wp_storeBlk _ (.tmp 64) (.tmp 61) rfl _ _ rfl tInt hs6 3 rfl [.int .i64 (numOf (l.take 8))] rfl rfl (fun u hu => by simp at hu; subst hu; rfl) _ (fillH_one l) (by rw [fillH_len l 3 HL (by omega)]; simp) ?_); intro w7 hs7) | (refine lg (wp_storeBlk _ (.tmp 65) (.tmp 63) rfl _ _ rfl tInt hs7 3 rfl [.int .i64 (numOf (l.drop 104))] (by rw [← HN.out]; rfl) rfl (fun u hu => by simp at hu; subst hu; rfl) _ (fillH_two l HL) (by rw [fillH1_len l HL]; simp) ?_); intro w8 hs8) | (refine lg (wp_loadAgg _ (.tmp 2) rfl _ _ rfl tHeader _ (hs8.rcBlk 3 rfl) (Hdr.len _ ho) ?_)) | (refine lg (wp_storeBlk _ (.tmp 2) (.tmp 66) rfl _ _ rfl tHeader hs8 3 rfl (hdrOf l).cells rfl (Hdr.len _ ho) (Hdr.one _) _ (splice_all _ _ rfl) (by rw [Hdr.len _ ho]; omega) ?_); intro w9 hs9))
      exact bodyPost_ret (results2 rfl (rvBlk hs9 3 rfl rfl tHeader (Hdr.len _ ho)) rfl) rfl ⟨by rw [hdrRead_good HL hA (by rw [← HN.out]; exact hB)]; rfl, ((((hs9.erase 0).erase 0).erase 0).erase 0)⟩

theorem read_any (a : Option Addr) (cap : Nat) (l : List UInt8) (w : World) {n : Nat} (hn : n = l.length) (hcap : l.length ≤ cap) (hc : Rc w a (bvs l)) :
    Calls Try.prog 10 #[.slice a n cap] w (RetHdr (hdrRead l) w) := by
  by_cases h1 : l.length < 108
  · have := read_short a cap l w hn h1
    rwa [← hdrRead_short h1] at this
  by_cases h2 : 108 < l.length
  · have := read_long a cap l w hn h2
    rwa [← hdrRead_long h2] at this
  exact read_calls a cap l w hn (by omega) hcap hc

end Go.Proofs.Ytjbjidopjhllbaa
