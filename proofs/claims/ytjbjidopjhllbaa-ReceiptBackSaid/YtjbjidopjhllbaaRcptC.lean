/-
  A receipt's reader.
-/
import Derived.Test.YtjbjidopjhllbaaRcptB
namespace Go.Proofs.Ytjbjidopjhllbaa
open Go Go.RowKit
set_option linter.unusedSimpArgs false

theorem numOf2_lt (l : List UInt8) (h : l.length = 2) : numOf l < 65536 := by
  match l, h with
  | [x, y], _ =>
    have := x.toNat_lt
    have := y.toNat_lt
    simp [numOf]
    omega

theorem rfill1 (k : Nat) : splice Rcp.zero.cells 0 [.int .u8 k] = Rcp.cells ⟨k, List.replicate 32 0, 0⟩ := rfl
theorem rfill2 (k : Nat) (id : List UInt8) (hid : id.length = 32) : splice (Rcp.cells ⟨k, List.replicate 32 0, 0⟩) 1 (bvs id) = Rcp.cells ⟨k, id, 0⟩ := by
  have := splice_mid [.int .u8 (k : Int)] (bvs (List.replicate 32 0)) [.int .i64 0] (bvs id) 1 rfl (by simp [hid])
  exact this
theorem rfill3 (k : Nat) (id : List UInt8) (hid : id.length = 32) (c : Int) : splice (Rcp.cells ⟨k, id, 0⟩) 33 [.int .i64 c] = Rcp.cells ⟨k, id, c⟩ := by
  have := splice_mid (.int .u8 (k : Int) :: bvs id) [.int .i64 0] [] [.int .i64 c] 33 (by simp [hid]) rfl
  simp only [List.append_nil] at this
  exact this

set_option maxRecDepth 100000 in
set_option maxHeartbeats 1600000 in
theorem rread_calls (a : Option Addr) (cap : Nat) (l : List UInt8) (w : World) {n : Nat} (hn : n = l.length) (hl : l.length = 35) (hcap : l.length ≤ cap) (hc : Rc w a (bvs l)) :
    Calls Try.prog 19 #[.slice a n cap] w (RetRcp (rcpRead l) w) := by
  subst hn
  obtain ⟨b, off, rfl⟩ := hc.some (by omega)
  have hl1 : 35 ≤ l.length := by omega
  have hl2 : l.length ≤ 35 := by omega
  have HL : Hid (l.length = 35) := hl
  have hid : ((l.drop 1).take 32).length = 32 := by simp; omega
  have HI : Hid (((l.drop 1).take 32).length = 32) := hid
  have hn2 := numOf2_lt ((l.drop 33).take 2) (by simp; omega)
  have hk : l[0]'(by omega) = l.headD 0 := by cases l with
    | nil => simp at hl
    | cons x l => rfl
  obtain ⟨b', off', e', hck⟩ := hc.at 0 (by simp; omega)
  cases e'
  rw [bvs_get, hk] at hck
  have hck' : w.cell? ⟨b, off, none⟩ = some (.int .u8 (l.headD 0).toNat) := hck
  have HC : Hid (w.cell? ⟨b, off, none⟩ = some (.int .u8 (l.headD 0).toNat)) := hck'
  clear hl hid hk hck hck'
  obtain ⟨k, hkk⟩ : ∃ k, k = (l.headD 0).toNat := ⟨_, rfl⟩
  rw [← hkk] at HC
  have HKK : Hid (k = (l.headD 0).toNat) := hkk
  have hk8 : k < 256 := by rw [hkk]; exact (l.headD 0).toNat_lt
  clear hkk
  go_enter Try.func19, Try.ntmps19
  go_wp2_with (first | (refine lg (wp_alloc _ rfl tRcp (St.start w) ?_); intro g1 w1 hs1) | (refine lg (wp_load1 _ (.tmp 18) rfl _ _ rfl tByte _ (since_cell HC.out hs1.below) ?_)) | (refine lg (wp_storeBlk _ (.tmp 20) (.tmp 19) rfl _ _ rfl tByte hs1 0 rfl [.int .u8 k] rfl rfl (fun u hu => by simp at hu; subst hu; rfl) _ (rfill1 k) (by rw [Rcp.zero_len]; simp) ?_); intro w2 hs2))
  have hrI := (hc.st hs2).cutTo 1 cap hcap
  refine rgn (fun _ => True) (by kernel_rfl) trivial ?_
  have hs3 := hs2.drew
  refine tq (i := 0) (v := .pointer (some ⟨g1, 1, none⟩)) rfl (by kernel_rfl) (fun _ _ _ h => h) rfl (fun W _ => by go_simp) trivial ?_
  simp only [Act.put, List.setIfInBounds_toArray, List.set_cons_zero, List.set_cons_succ]
  refine tq (i := 1) (v := .slice (some ⟨g1, 1, none⟩) 32 32) rfl (by kernel_rfl) (fun _ _ _ h => h) rfl (fun W _ => by go_simp) trivial ?_
  simp only [Act.put, List.setIfInBounds_toArray, List.set_cons_zero, List.set_cons_succ]
  refine tq (i := 2) (v := .slice (some ⟨b, off, none⟩) l.length cap) rfl (by kernel_rfl) (fun _ _ _ h => h) rfl (fun W _ => by go_simp) trivial ?_
  simp only [Act.put, List.setIfInBounds_toArray, List.set_cons_zero, List.set_cons_succ]
  refine tq (i := 3) rfl (by kernel_rfl) (fun _ _ _ h => h) rfl (fun W _ => run_sliceSl _ (.tmp 23) (some (.const (.int .i64 1))) none none rfl sBytes rfl 1 l.length cap ⟨_, _, rfl, rfl⟩ rfl rfl (by simp) (by omega) hcap (Nat.le_refl _)) trivial ?_
  simp only [Act.put, List.setIfInBounds_toArray, List.set_cons_zero, List.set_cons_succ]
  refine t1 (i := 4) (by kernel_rfl) rfl rfl (wp_copyBlk (.tmp 22) (.tmp 24) _ _ rfl sBytes hs3 0 rfl rfl rfl (bvs ((l.drop 1).take 32)) (by simp; omega) (hrI.takeB 32) (bvs_one _) _ (rfill2 k _ HI.out) (by rw [Rcp.len _ ⟨by omega, rfl⟩]; simp; omega) (fun w4 hs4 => ⟨trivial, ?_⟩))
  refine wpAnyH_done (by kernel_rfl) ?_ _
  have hs4' : St w w4 [blk g1 43 (Rcp.cells ⟨k, (l.drop 1).take 32, 0⟩)] := hs4
  have hrT := (hc.st hs4').dropB 33
  obtain ⟨r, hr⟩ : ∃ r : Rcp, r = ⟨k, (l.drop 1).take 32, numOf ((l.drop 33).take 2)⟩ := ⟨_, rfl⟩
  have hrl : r = rcpOf l := by rw [hr, HKK.out]; rfl
  have ho : r.ok := by rw [hrl]; exact rcpOf_ok l HL.out
  have HR : Hid (r = ⟨k, (l.drop 1).take 32, numOf ((l.drop 33).take 2)⟩) := hr
  have HRL : Hid (r = rcpOf l) := hrl
  clear hr hrl hs1 hs2 hs3 hs4
  cases hm : rmay r.kind r.code with
  | false =>
    have HM : Hid (rmay r.kind r.code = false) := hm
    clear hm
    go_wp2_with (first | (go_at_call 36; refine (take_calls _ _ (l.drop 33) 2 (by simp) (by omega) (by omega) (by simp; omega) (by simp; omega) _ (by simp; omega) hrT).mono ?_; rintro e w5 ⟨a5, c5, rfl, hd5⟩; have hs5 := hs4'.comp hd5) | (refine lg (wp_storeBlk _ (.tmp 35) (.tmp 34) rfl _ _ rfl tErrno hs5 1 rfl [.int .i64 (numOf ((l.drop 33).take 2))] rfl rfl (fun u hu => by simp at hu; subst hu; rfl) r.cells (by rw [HR.out]; exact rfill3 k _ HI.out _) (by rw [Rcp.len _ ⟨hk8, HI.out⟩]; simp) ?_); intro w6 hs6) | (refine lg (wp_loadAgg _ (.tmp 2) rfl _ _ rfl tRcp _ (hs6.rcBlk 1 rfl) (Rcp.len _ ho) ?_)) | (go_at_call 20; refine (rcheck_calls r ho _).mono ?_; rintro e w7 ⟨he, hd7⟩; rw [HM.out] at he; subst he; have hs7 := hs6.comp hd7) | (refine lg (wp_build0 _ rfl tRcp fRcp ?_)) | (refine lg (wp_storeBlk _ (.tmp 2) (.tmp 39) rfl _ _ rfl tRcp hs7 1 rfl Rcp.zero.cells rfl Rcp.zero_len (Rcp.one _) _ (splice_all _ _ (by rw [Rcp.len _ ho]; rfl)) (by rw [Rcp.len _ ho, Rcp.zero_len]; omega) ?_); intro w8 hs8))
    exact bodyPost_ret (results2 rfl (rvBlk hs8 1 rfl rfl tRcp Rcp.zero_len) rfl) rfl ⟨by rw [rcpRead_bad HL (by rw [← HRL.out]; exact HM)]; rfl, (hs8.erase 0).erase 0⟩
  | true =>
    have HM : Hid (rmay r.kind r.code = true) := hm
    clear hm
    go_wp2_with (first | (go_at_call 36; refine (take_calls _ _ (l.drop 33) 2 (by simp) (by omega) (by omega) (by simp; omega) (by simp; omega) _ (by simp; omega) hrT).mono ?_; rintro e w5 ⟨a5, c5, rfl, hd5⟩; have hs5 := hs4'.comp hd5) | (refine lg (wp_storeBlk _ (.tmp 35) (.tmp 34) rfl _ _ rfl tErrno hs5 1 rfl [.int .i64 (numOf ((l.drop 33).take 2))] rfl rfl (fun u hu => by simp at hu; subst hu; rfl) r.cells (by rw [HR.out]; exact rfill3 k _ HI.out _) (by rw [Rcp.len _ ⟨hk8, HI.out⟩]; simp) ?_); intro w6 hs6) | (refine lg (wp_loadAgg _ (.tmp 2) rfl _ _ rfl tRcp _ (hs6.rcBlk 1 rfl) (Rcp.len _ ho) ?_)) | (go_at_call 20; refine (rcheck_calls r ho _).mono ?_; rintro e w7 ⟨he, hd7⟩; rw [HM.out] at he; subst he; have hs7 := hs6.comp hd7; have hc7 := hs7.rcBlk 1 rfl) | (refine lg (wp_loadAgg _ (.tmp 2) rfl _ _ rfl tRcp _ hc7 (Rcp.len _ ho) ?_)) | (refine lg (wp_storeBlk _ (.tmp 2) (.tmp 40) rfl _ _ rfl tRcp hs7 1 rfl r.cells rfl (Rcp.len _ ho) (Rcp.one _) _ (splice_all _ _ rfl) (by rw [Rcp.len _ ho]; omega) ?_); intro w8 hs8))
    exact bodyPost_ret (results2 rfl (rvBlk hs8 1 rfl rfl tRcp (Rcp.len _ ho)) rfl) rfl ⟨by rw [rcpRead_good HL (by rw [← HRL.out]; exact HM), ← HRL.out]; rfl, (hs8.erase 0).erase 0⟩

theorem rread_any (a : Option Addr) (cap : Nat) (l : List UInt8) (w : World) {n : Nat} (hn : n = l.length) (hcap : l.length ≤ cap) (hc : Rc w a (bvs l)) :
    Calls Try.prog 19 #[.slice a n cap] w (RetRcp (rcpRead l) w) := by
  by_cases h1 : l.length < 35
  · have := rread_short a cap l w hn h1
    rwa [← rcpRead_short h1] at this
  by_cases h2 : 35 < l.length
  · have := rread_long a cap l w hn h2
    rwa [← rcpRead_long h2] at this
  exact rread_calls a cap l w hn (by omega) hcap hc

end Go.Proofs.Ytjbjidopjhllbaa
