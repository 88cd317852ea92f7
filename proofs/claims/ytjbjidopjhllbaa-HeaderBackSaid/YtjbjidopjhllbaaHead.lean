/-
  Headers: their cells, the reference's reader, the program's reader.
-/
import Derived.Test.YtjbjidopjhllbaaNumB
import Derived.Test.YtjbjidopjhllbaaLawsC
namespace Go.Proofs.Ytjbjidopjhllbaa
open Go Go.RowKit

/-- A header as plain data. -/
structure Hdr where
  height : Int
  parent : List UInt8
  state : List UInt8
  rows : List UInt8
  many : Int

def Hdr.ok (h : Hdr) : Prop := h.parent.length = 32 ∧ h.state.length = 32 ∧ h.rows.length = 32
def Hdr.cells (h : Hdr) : List Value := .int .i64 h.height :: (bvs h.parent ++ (bvs h.state ++ (bvs h.rows ++ [.int .i64 h.many])))
def Hdr.zero : Hdr := ⟨0, List.replicate 32 0, List.replicate 32 0, List.replicate 32 0, 0⟩
theorem Hdr.len (h : Hdr) (ho : h.ok) : h.cells.length = 98 := by simp [Hdr.cells, ho.1, ho.2.1, ho.2.2]
theorem tHeader : TyI Try.prog 27 true 98 112 Hdr.zero.cells := TyI.of (zv := .agg Hdr.zero.cells.toArray) (by kernel_rfl) (by kernel_rfl) rfl rfl (by decide)

theorem fHeader : FlI Try.prog 27 [(0, 1), (1, 32), (33, 32), (65, 32), (97, 1)] := ⟨by kernel_rfl, by kernel_rfl⟩

set_option maxRecDepth 100000 in
set_option maxHeartbeats 400000 in
theorem digest14_calls (a : Option Addr) (cap : Nat) (l : List UInt8) (at' : Nat) (w : World) {n : Nat} (hn : n = l.length) (hl : l.length ≤ 1000000000000) (hat : at' + 32 ≤ l.length) (hc : Rc w a (bvs l)) :
    Calls Try.prog 38 #[.slice a n cap, .int .i64 at'] w fun e w' => e = .returned (.agg (bvs ((l.drop at').take 32)).toArray) ∧ St w w' [] := by
  subst hn
  go_enter Try.func38, Try.ntmps38
  go_wp2_with (first | (refine lg (wp_alloc _ rfl tDigest (St.start w) ?_); intro g1 w1 hs1) | (refine lg (wp_alloc _ rfl tDigest hs1 ?_); intro g2 w2 hs2))
  go_loopw [6] (fun v6 wr => ∃ k : Nat, k ≤ 32 ∧ v6 = .int .i64 k ∧ St w wr [blk g2 25 (bvs (((l.drop at').take k) ++ List.replicate (32 - k) 0)), blk g1 25 (bvs (List.replicate 32 0))]) (fun v6 _ => 32 - (intOf v6).toNat)
  case atStart => exact ⟨0, by omega, rfl, hs2⟩
  case round =>
    obtain ⟨k, hk, rfl, hs⟩ := hrel
    clear hs1 hs2
    by_cases hlt : k < 32
    · obtain ⟨b, off, rfl, hck⟩ := (hc.st hs).at (at' + k) (by simp; omega)
      rw [bvs_get] at hck
      clear hc
      go_wp2_with (first | (refine lg (wp_load1 _ (.tmp 16) rfl _ _ rfl tByte _ hck ?_)) | (refine lg (wp_storeBlk _ (.tmp 18) (.tmp 17) rfl _ _ rfl tByte hs 0 rfl [bv ((l.drop at')[k]'(by simp; omega))] (congrArg (fun c : UInt8 => [bv c]) List.getElem_drop.symm) rfl (fun u hu => by simp at hu; subst hu; rfl) _ rfl (by simp; omega) ?_); intro w3 hs3))
      go_roundw
      case rel => exact ⟨k + 1, by omega, by go_num, by
        have hs4 := hs3
        rw [fill_step _ 32 k hlt (by simp; omega)] at hs4
        exact hs4⟩
      case measure => simp [intOf]; omega
    · obtain rfl : k = 32 := by omega
      have hs' : St w wr [blk g2 25 (bvs ((l.drop at').take 32)), blk g1 25 (bvs (List.replicate 32 0))] := by simpa using hs
      go_wp2_with (first | (refine lg (wp_loadAgg _ (.tmp 5) rfl _ _ rfl tDigest _ (hs'.rcBlk 0 rfl) (by simp; omega) ?_)) | (refine lg (wp_storeBlk _ (.tmp 4) (.tmp 19) rfl _ _ rfl tDigest hs' 1 rfl (bvs ((l.drop at').take 32)) rfl (by simp; omega) (bvs_one _) _ (splice_all _ _ (by simp; omega)) (by simp; omega) ?_); intro w3 hs3))
      refine bodyPost_ret (results1 rfl (rvBlk hs3 1 rfl rfl tDigest (by simp; omega))) rfl ⟨rfl, ?_⟩
      exact (hs3.erase 0).erase 0

/-- The header that 108 bytes are. -/
def hdrOf (l : List UInt8) : Hdr := ⟨numOf (l.take 8), (l.drop 8).take 32, (l.drop 40).take 32, (l.drop 72).take 32, numOf (l.drop 104)⟩
/-- What a reader of headers answers. -/
def hdrRead (l : List UInt8) : Hdr × Int :=
  if l.length < 108 then (Hdr.zero, 10) else if 108 < l.length then (Hdr.zero, 11) else
  if 1073741824 < numOf (l.take 8) ∨ 256 < numOf (l.drop 104) then (Hdr.zero, 8) else (hdrOf l, 0)
def RetHdr (p : Hdr × Int) (w : World) (e : Ending) (w' : World) : Prop := e = .returned (.tuple #[.agg p.1.cells.toArray, .int .i64 p.2]) ∧ St w w' []

theorem Hdr.zero_one : ∀ u ∈ Hdr.zero.cells, u.oneCell' = true := by decide
theorem Hdr.one (h : Hdr) : ∀ u ∈ h.cells, u.oneCell' = true := by
  intro u hu
  simp only [Hdr.cells, List.mem_cons, List.mem_append, List.not_mem_nil, or_false] at hu
  rcases hu with rfl | hu | hu | hu | rfl
  · rfl
  · exact bvs_one _ u hu
  · exact bvs_one _ u hu
  · exact bvs_one _ u hu
  · rfl
theorem Hdr.zero_len : Hdr.zero.cells.length = 98 := Hdr.len _ ⟨rfl, rfl, rfl⟩

theorem hdrRead_short {l : List UInt8} (h : l.length < 108) : hdrRead l = (Hdr.zero, 10) := by simp [hdrRead, h]
theorem hdrRead_long {l : List UInt8} (h : 108 < l.length) : hdrRead l = (Hdr.zero, 11) := by simp [hdrRead, h, Nat.lt_asymm h]
theorem hdrRead_bad {l : List UInt8} (h : l.length = 108) (hb : 1073741824 < numOf (l.take 8) ∨ 256 < numOf (l.drop 104)) : hdrRead l = (Hdr.zero, 8) := by simp [hdrRead, h, hb]
theorem hdrRead_good {l : List UInt8} (h : l.length = 108) (h1 : ¬ 1073741824 < numOf (l.take 8)) (h2 : ¬ 256 < numOf (l.drop 104)) : hdrRead l = (hdrOf l, 0) := by simp only [hdrRead, h]; simp [h1, h2]

set_option maxRecDepth 100000 in
set_option maxHeartbeats 400000 in
theorem read14_short (a : Option Addr) (cap : Nat) (l : List UInt8) (w : World) {n : Nat} (hn : n = l.length) (hl : l.length < 108) :
    Calls Try.prog 11 #[.slice a n cap] w (RetHdr (Hdr.zero, 10) w) := by
  subst hn
  go_enter Try.func11, Try.ntmps11
  go_wp2_with (first | (refine lg (wp_alloc _ rfl tHeader (St.start w) ?_); intro g1 w1 hs1) | (refine lg (wp_build0 _ rfl tHeader fHeader ?_)) | (refine lg (wp_storeBlk _ (.tmp 2) (.tmp 9) rfl _ _ rfl tHeader hs1 0 rfl Hdr.zero.cells rfl Hdr.zero_len Hdr.zero_one _ (splice_all _ _ rfl) (Nat.le_refl _) ?_); intro w3 hs3))
  refine bodyPost_ret (results2 rfl (rvBlk hs3 0 rfl rfl tHeader Hdr.zero_len) rfl) rfl ⟨rfl, hs3.erase 0⟩

set_option maxRecDepth 100000 in
set_option maxHeartbeats 400000 in
theorem read14_long (a : Option Addr) (cap : Nat) (l : List UInt8) (w : World) {n : Nat} (hn : n = l.length) (hl : 108 < l.length) :
    Calls Try.prog 11 #[.slice a n cap] w (RetHdr (Hdr.zero, 11) w) := by
  subst hn
  go_enter Try.func11, Try.ntmps11
  go_wp2_with (first | (refine lg (wp_alloc _ rfl tHeader (St.start w) ?_); intro g1 w1 hs1) | (refine lg (wp_build0 _ rfl tHeader fHeader ?_)) | (refine lg (wp_storeBlk _ (.tmp 2) (.tmp 13) rfl _ _ rfl tHeader hs1 0 rfl Hdr.zero.cells rfl Hdr.zero_len Hdr.zero_one _ (splice_all _ _ rfl) (Nat.le_refl _) ?_); intro w3 hs3))
  refine bodyPost_ret (results2 rfl (rvBlk hs3 0 rfl rfl tHeader Hdr.zero_len) rfl) rfl ⟨rfl, hs3.erase 0⟩


end Go.Proofs.Ytjbjidopjhllbaa
