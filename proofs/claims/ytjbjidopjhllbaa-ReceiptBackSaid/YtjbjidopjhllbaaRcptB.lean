/-
  A receipt's bytes.
-/
import Derived.Test.YtjbjidopjhllbaaRcpt
namespace Go.Proofs.Ytjbjidopjhllbaa
open Go Go.RowKit
set_option linter.unusedSimpArgs false

/-- What answers bytes and an error. -/
def RetBE (l : List UInt8) (c : Int) (w : World) (e : Ending) (w' : World) : Prop := ∃ a cap, e = .returned (.tuple #[.slice a l.length cap, .int .i64 c]) ∧ St w w' [ownB a cap l]
/-- The bytes of a receipt. -/
def rbytes (k : Nat) (id : List UInt8) (c : Nat) : List UInt8 := UInt8.ofNat k :: (id ++ digs c 2)

set_option maxRecDepth 100000 in
set_option maxHeartbeats 1600000 in
theorem rbytes_bad (r : Rcp) (ho : r.ok) (w : World) (hm : rmay r.kind r.code = false) : Calls Try.prog 18 #[.agg r.cells.toArray] w (RetBE [] 8 w) := by
  have HM : Hid (rmay r.kind r.code = false) := hm
  clear hm
  go_enter Try.func18, Try.ntmps18
  go_wp2_with (first | (refine lg (wp_box _ (.tmp 0) rfl r.cells rfl (St.start w) ?_); intro g w1 hs1) | (refine lg (wp_loadAgg _ (.tmp 1) rfl _ _ rfl tRcp _ (hs1.rcBlk 0 rfl) (Rcp.len _ ho) ?_)) | (go_at_call 20; refine (rcheck_calls r ho _).mono ?_; rintro e w2 ⟨he, hd2⟩; rw [HM.out] at he; subst he; have hs2 := hs1.comp hd2))
  go_ret2
  exact ⟨none, 0, rfl, ((hs2.erase 0).nil _ _)⟩

set_option maxRecDepth 100000 in
set_option maxHeartbeats 1600000 in
theorem rbytes_calls (k : Nat) (id : List UInt8) (c : Nat) (hk : k < 256) (hid : id.length = 32) (hc : c < 65536) (hm : rmay k c = true) (w : World) : Calls Try.prog 18 #[.agg (Rcp.cells ⟨k, id, c⟩).toArray] w (RetBE (rbytes k id c) 0 w) := by
  have ho : Rcp.ok ⟨k, id, c⟩ := ⟨hk, hid⟩
  have c0 := rcell0 ⟨k, id, c⟩
  have c2 := rcell2 ⟨k, id, c⟩ ho
  have HM : Hid (rmay k c = true) := hm
  have HI : Hid (id.length = 32) := hid
  clear hm hid
  simp only at c2 c0
  go_enter Try.func18, Try.ntmps18
  go_wp2_with (first | (refine lg (wp_box _ (.tmp 0) rfl (Rcp.cells ⟨k, id, c⟩) rfl (St.start w) ?_); intro g w1 hs1) | (refine lg (wp_loadAgg _ (.tmp 1) rfl _ _ rfl tRcp _ (hs1.rcBlk 0 rfl) (Rcp.len _ ho) ?_)) | (go_at_call 20; refine (rcheck_calls ⟨k, id, c⟩ ho _).mono ?_; rintro e w2 ⟨he, hd2⟩; rw [show (if rmay (Rcp.kind ⟨k, id, (c : Int)⟩ : Nat) (Rcp.code ⟨k, id, (c : Int)⟩) then (0 : Int) else 8) = 0 from if_pos HM.out] at he; subst he; have hs2 := hs1.comp hd2) | (refine lg (wp_load1 _ (.tmp 13) rfl _ _ rfl tErrno _ (hs2.cellBlk 0 rfl _ c2) ?_)) | (go_at_call 40; refine (put_calls c 2 (by omega) (by omega) (by omega) _).mono ?_; rintro e w3 ⟨ap, cp, rfl, hd3⟩; have hs3 := hs2.comp hd3))
  have hrA := hs3.rcBlk 1 rfl
  have hrB := hs3.rcOwn 0 rfl
  have hcl := hs3.cellBlk 1 rfl _ c0
  have hrI : Rc w3 (some ⟨g, 1, none⟩) (bvs id) := hrA.part 1 _ (fun j u hu => by
    have hj := (List.getElem?_eq_some_iff.1 hu).1
    simp only [Rcp.cells, Nat.add_comm 1 j, List.getElem?_cons_succ]
    rw [List.getElem?_append_left hj]
    exact hu)
  refine rgn (Since w3) (by kernel_rfl) (Since.drew _) ?_
  have hS0 : Since w3 w3.drew := Since.drew _
  have hr0 : St w3 w3.drew [] := (St.start w3).drew
  refine tq (i := 0) (v := .pointer (some ⟨g, 0, none⟩)) rfl (by kernel_rfl) (fun _ _ _ h => h) rfl (fun W _ => by go_simp) hS0 ?_
  simp only [Act.put, List.setIfInBounds_toArray, List.set_cons_zero, List.set_cons_succ]
  refine tq (i := 1) rfl (by kernel_rfl) (fun _ _ _ h => h) rfl (fun W hW => run_load1 _ _ rfl _ _ rfl tByte _ (since_cell hcl hW)) hS0 ?_
  simp only [Act.put, List.setIfInBounds_toArray, List.set_cons_zero, List.set_cons_succ]
  refine tq (i := 3) (v := .pointer (some ⟨g, 1, none⟩)) rfl (by kernel_rfl) (fun _ _ _ h => h) rfl (fun W _ => by go_simp) hS0 ?_
  simp only [Act.put, List.setIfInBounds_toArray, List.set_cons_zero, List.set_cons_succ]
  refine tq (i := 4) (v := .slice (some ⟨g, 1, none⟩) 32 32) rfl (by kernel_rfl) (fun _ _ _ h => h) rfl (fun W _ => by go_simp) hS0 ?_
  simp only [Act.put, List.setIfInBounds_toArray, List.set_cons_zero, List.set_cons_succ]
  refine tq (i := 6) (v := .slice ap (digs c 2).length cp) rfl (by kernel_rfl) (fun _ _ _ h => h) rfl (fun W _ => by go_simp) hS0 ?_
  simp only [Act.put, List.setIfInBounds_toArray, List.set_cons_zero, List.set_cons_succ]
  refine t1 (i := 2) (by kernel_rfl) rfl rfl (wp_buildSlice1 _ _ rfl sBytes hr0 [bv (UInt8.ofNat k)] (by simp [bv, Value.cells, Act.eval]; omega) rfl (by decide) (fun g2 w4 hr4 => ⟨hr4.since, ?_⟩))
  simp only [Act.put, List.setIfInBounds_toArray, List.set_cons_zero, List.set_cons_succ]
  refine t1 (i := 5) (by kernel_rfl) rfl rfl (wp_append (.tmp 21) (.tmp 23) _ rfl sBytes hr4 0 rfl rfl rfl (bvs id) (by simp; exact HI) (hrI.since hr4.since) (bvs_one id) (by simp [maxLen]) (by omega) (fun a5 c5 w5 hr5 _ => ⟨hr5.since, ?_⟩))
  simp only [Act.put, List.setIfInBounds_toArray, List.set_cons_zero, List.set_cons_succ]
  refine t1 (i := 7) (by kernel_rfl) rfl rfl (wp_append (.tmp 24) (.tmp 25) _ rfl sBytes hr5 0 rfl rfl rfl (bvs (digs c 2)) (by simp) (hrB.since hr5.since) (bvs_one _) (by rw [digs_length]; simp [maxLen]) (by rw [digs_length]; omega) (fun a6 c6 w6 hr6 _ => ⟨hr6.since, ?_⟩))
  simp only [Act.put, List.setIfInBounds_toArray, List.set_cons_zero, List.set_cons_succ]
  refine tq (i := 8) rfl (by kernel_rfl) (fun _ _ _ h => h) rfl (fun _ _ => rfl) hr6.since ?_
  simp only [Act.put, List.setIfInBounds_toArray, List.set_cons_zero, List.set_cons_succ]
  refine tq (i := 9) rfl (by kernel_rfl) (fun _ _ _ h => h) rfl (fun _ _ => rfl) hr6.since ?_
  simp only [Act.put, List.setIfInBounds_toArray, List.set_cons_zero, List.set_cons_succ]
  refine wpAnyH_done (by kernel_rfl) ?_ _
  go_wp2_with fail
  go_ret2
  have hfin := (hs3.comp hr6).erase 1
  have hlen : (rbytes k id c).length = 1 + 32 + (digs c 2).length := by simp [rbytes, HI.out]; omega
  refine ⟨a6, c6, ?_, ?_⟩
  · rw [hlen]; rfl
  · have h1 := hfin.asB 0 rfl (rbytes k id c) hlen.symm (by simp [rbytes, bvs])
    exact h1.erase 1

/-- The receipt that 35 bytes are. -/
def rcpOf (l : List UInt8) : Rcp := ⟨(l.headD 0).toNat, (l.drop 1).take 32, numOf ((l.drop 33).take 2)⟩
theorem rcpOf_ok (l : List UInt8) (h : l.length = 35) : (rcpOf l).ok := ⟨(l.headD 0).toNat_lt, by simp [rcpOf]; omega⟩
def rcpRead (l : List UInt8) : Rcp × Int :=
  if l.length < 35 then (Rcp.zero, 10) else if 35 < l.length then (Rcp.zero, 11) else
  if rmay (rcpOf l).kind (rcpOf l).code then (rcpOf l, 0) else (Rcp.zero, 8)
theorem rcpRead_short {l : List UInt8} (h : l.length < 35) : rcpRead l = (Rcp.zero, 10) := by simp [rcpRead, h]
theorem rcpRead_long {l : List UInt8} (h : 35 < l.length) : rcpRead l = (Rcp.zero, 11) := by simp [rcpRead, h, Nat.lt_asymm h]
theorem rcpRead_bad {l : List UInt8} (h : l.length = 35) (hb : rmay (rcpOf l).kind (rcpOf l).code = false) : rcpRead l = (Rcp.zero, 8) := by simp [rcpRead, h, hb]
theorem rcpRead_good {l : List UInt8} (h : l.length = 35) (hb : rmay (rcpOf l).kind (rcpOf l).code = true) : rcpRead l = (rcpOf l, 0) := by simp [rcpRead, h, hb]
def RetRcp (p : Rcp × Int) (w : World) (e : Ending) (w' : World) : Prop := e = .returned (.tuple #[.agg p.1.cells.toArray, .int .i64 p.2]) ∧ St w w' []

set_option maxRecDepth 100000 in
set_option maxHeartbeats 1600000 in
theorem rread_short (a : Option Addr) (cap : Nat) (l : List UInt8) (w : World) {n : Nat} (hn : n = l.length) (hl : l.length < 35) :
    Calls Try.prog 19 #[.slice a n cap] w (RetRcp (Rcp.zero, 10) w) := by
  subst hn
  go_enter Try.func19, Try.ntmps19
  go_wp2_with (first | (refine lg (wp_alloc _ rfl tRcp (St.start w) ?_); intro g1 w1 hs1) | (refine lg (wp_loadAgg _ (.tmp 2) rfl _ _ rfl tRcp _ (hs1.rcBlk 0 rfl) Rcp.zero_len ?_)) | (refine lg (wp_storeBlk _ (.tmp 2) (.tmp 11) rfl _ _ rfl tRcp hs1 0 rfl Rcp.zero.cells rfl Rcp.zero_len (Rcp.one _) _ (splice_all _ _ rfl) (Nat.le_refl _) ?_); intro w3 hs3))
  exact bodyPost_ret (results2 rfl (rvBlk hs3 0 rfl rfl tRcp Rcp.zero_len) rfl) rfl ⟨rfl, hs3.erase 0⟩

set_option maxRecDepth 100000 in
set_option maxHeartbeats 1600000 in
theorem rread_long (a : Option Addr) (cap : Nat) (l : List UInt8) (w : World) {n : Nat} (hn : n = l.length) (hl : 35 < l.length) :
    Calls Try.prog 19 #[.slice a n cap] w (RetRcp (Rcp.zero, 11) w) := by
  subst hn
  go_enter Try.func19, Try.ntmps19
  go_wp2_with (first | (refine lg (wp_alloc _ rfl tRcp (St.start w) ?_); intro g1 w1 hs1) | (refine lg (wp_loadAgg _ (.tmp 2) rfl _ _ rfl tRcp _ (hs1.rcBlk 0 rfl) Rcp.zero_len ?_)) | (refine lg (wp_storeBlk _ (.tmp 2) (.tmp 16) rfl _ _ rfl tRcp hs1 0 rfl Rcp.zero.cells rfl Rcp.zero_len (Rcp.one _) _ (splice_all _ _ rfl) (Nat.le_refl _) ?_); intro w3 hs3))
  exact bodyPost_ret (results2 rfl (rvBlk hs3 0 rfl rfl tRcp Rcp.zero_len) rfl) rfl ⟨rfl, hs3.erase 0⟩

end Go.Proofs.Ytjbjidopjhllbaa
