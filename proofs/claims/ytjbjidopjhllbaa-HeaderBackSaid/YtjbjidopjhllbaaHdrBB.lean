/-
  A header's bytes.
-/
import Derived.Test.YtjbjidopjhllbaaHdrB
namespace Go.Proofs.Ytjbjidopjhllbaa
open Go Go.RowKit
set_option linter.unusedSimpArgs false

section
variable {P : Program} {ops : Array Oper} {Q : Exit → Act → World → Prop} {S : World → Prop}
/-- Numbers i and j may come up, each the first. -/
theorem t2 {i j : Nat} {oi oj : Oper} {fuel : Nat} {listed : Array Bool} {a : Act} {w : World} (hr : Region.ready .any ops listed = [i, j]) (hli : ops.toList[i]? = some oi) (hlj : ops.toList[j]? = some oj)
    (hwi : Region.wanted oi (yielded ops a.tmps) = true) (hwj : Region.wanted oj (yielded ops a.tmps) = true) (hi : Runs P oi a w (fun a' w' => S w' ∧ wpAnyH P .any ops Q S fuel (listed.setIfInBounds i true) a' w') Q)
    (hj : Runs P oj a w (fun a' w' => S w' ∧ wpAnyH P .any ops Q S fuel (listed.setIfInBounds j true) a' w') Q) : wpAnyH P .any ops Q S (fuel + 1) listed a w :=
  wpAnyH_all hr (by simp) (fun k hk => by
    rcases List.mem_cons.1 hk with rfl | hk
    · have hq : ops[k]? = some oi := by rw [← hli]; simp
      exact og hq hwi hi
    · obtain rfl := List.mem_singleton.1 hk
      have hq : ops[k]? = some oj := by rw [← hlj]; simp
      exact og hq hwj hj)
end

/-- The bytes of a header. -/
def hbytes (k : Nat) (p s r : List UInt8) (m : Nat) : List UInt8 := digs k 8 ++ (p ++ (s ++ (r ++ digs m 4)))
theorem hbytes_len (k : Nat) (p s r : List UInt8) (m : Nat) (hp : p.length = 32) (hs : s.length = 32) (hr : r.length = 32) : (hbytes k p s r m).length = 108 := by simp [hbytes, digs_length, hp, hs, hr]
theorem hbytes_flat (k : Nat) (p s r : List UInt8) (m : Nat) : [digs k 8, p, s, r, digs m 4].flatten = hbytes k p s r m := by simp [hbytes]

set_option maxRecDepth 100000 in
set_option maxHeartbeats 1600000 in
theorem hbytes_bad (h : Hdr) (ho : h.ok) (w : World) (hm : hmay h.height h.many = false) : Calls Try.prog 34 #[.agg h.cells.toArray] w (RetRE [] 8 w) := by
  have HM : Hid (hmay h.height h.many = false) := hm
  clear hm
  go_enter Try.func34, Try.ntmps34
  go_wp2_with (first | (refine lg (wp_box _ (.tmp 0) rfl h.cells rfl (St.start w) ?_); intro g w1 hs1) | (refine lg (wp_loadAgg _ (.tmp 1) rfl _ _ rfl tHeader _ (hs1.rcBlk 0 rfl) (Hdr.len _ ho) ?_)) | (go_at_call 35; refine (hcheck_calls h ho _).mono ?_; rintro e w2 ⟨he, hd2⟩; rw [HM.out] at he; subst he; have hs2 := hs1.comp hd2))
  go_ret2
  exact ⟨none, 0, rfl, Nat.le_refl _, ⟨hs2.below, fun _ => False, .inl rfl, fun _ hk => hk.elim, trivial⟩⟩

theorem own_parts {w : World} {a1 a2 : Option Addr} {c1 c2 g k m : Nat} {p s r : List UInt8} (hp : p.length = 32) (hs : s.length = 32) (hr : r.length = 32) (q1 : Rc w a1 (bvs (digs k 8))) (q2 : Rc w a2 (bvs (digs m 4))) (q3 : Rc w (some ⟨g, 1, none⟩) (bvs p)) (q4 : Rc w (some ⟨g, 33, none⟩) (bvs s)) (q5 : Rc w (some ⟨g, 65, none⟩) (bvs r)) :
    PartsOf w [.slice a1 (digs k 8).length c1, .slice (some ⟨g, 1, none⟩) 32 32, .slice (some ⟨g, 33, none⟩) 32 32, .slice (some ⟨g, 65, none⟩) 32 32, .slice a2 (digs m 4).length c2] [digs k 8, p, s, r, digs m 4] :=
  .cons rfl q1 (.cons hp.symm q3 (.cons hs.symm q4 (.cons hr.symm q5 (.cons rfl q2 (.nil w)))))

set_option maxRecDepth 100000 in
set_option maxHeartbeats 3200000 in
theorem hbytes_calls (k : Nat) (p s r : List UInt8) (m : Nat) (hp : p.length = 32) (hs : s.length = 32) (hr : r.length = 32) (hk : k ≤ 1073741824) (hmm : m ≤ 256) (w : World) : Calls Try.prog 34 #[.agg (Hdr.cells ⟨k, p, s, r, m⟩).toArray] w (RetRE (hbytes k p s r m) 0 w) := by
  have ho : Hdr.ok ⟨k, p, s, r, m⟩ := ⟨hp, hs, hr⟩
  have c0 := hcell0 ⟨k, p, s, r, m⟩
  have c4 := hcell4 ⟨k, p, s, r, m⟩ ho
  have hm : hmay k m = true := by simp [hmay]; omega
  have HM : Hid (hmay k m = true) := hm
  have HP : Hid (p.length = 32) := hp
  have HS : Hid (s.length = 32) := hs
  have HR : Hid (r.length = 32) := hr
  have HK : Hid (k ≤ 1073741824) := hk
  have HMM : Hid (m ≤ 256) := hmm
  clear hm hp hs hr hk hmm
  simp only at c4 c0
  go_enter Try.func34, Try.ntmps34
  go_wp2_with (first | (refine lg (wp_box _ (.tmp 0) rfl (Hdr.cells ⟨k, p, s, r, m⟩) rfl (St.start w) ?_); intro g w1 hs1) | (refine lg (wp_loadAgg _ (.tmp 1) rfl _ _ rfl tHeader _ (hs1.rcBlk 0 rfl) (Hdr.len _ ho) ?_)) | (go_at_call 35; refine (hcheck_calls ⟨k, p, s, r, m⟩ ho _).mono ?_; rintro e w3 ⟨he, hd2⟩; rw [show (if hmay (Hdr.height ⟨k, p, s, r, m⟩) (Hdr.many ⟨k, p, s, r, m⟩) then (0 : Int) else 8) = 0 from if_pos HM.out] at he; subst he; have hs3 := hs1.comp hd2))
  have hrA := hs3.rcBlk 0 rfl
  have hcl0 := hs3.cellBlk 0 rfl _ c0
  have hcl4 := hs3.cellBlk 0 rfl _ c4
  have q3 : Rc w3 (some ⟨g, 1, none⟩) (bvs p) := hrA.part 1 _ (fun j u hu => by
    have hj := (List.getElem?_eq_some_iff.1 hu).1
    simp only [Hdr.cells, Nat.add_comm 1 j, List.getElem?_cons_succ]
    rw [List.getElem?_append_left hj]; exact hu)
  have q4 : Rc w3 (some ⟨g, 33, none⟩) (bvs s) := hrA.part 33 _ (fun j u hu => by
    have hj := (List.getElem?_eq_some_iff.1 hu).1
    have := HP.out
    simp only [Hdr.cells, show 33 + j = (32 + j) + 1 by omega, List.getElem?_cons_succ]
    rw [List.getElem?_append_right (by simp; omega), show 32 + j - (bvs p).length = j by simp; omega, List.getElem?_append_left hj]; exact hu)
  have q5 : Rc w3 (some ⟨g, 65, none⟩) (bvs r) := hrA.part 65 _ (fun j u hu => by
    have hj := (List.getElem?_eq_some_iff.1 hu).1
    have := HP.out
    have := HS.out
    simp only [Hdr.cells, show 65 + j = (64 + j) + 1 by omega, List.getElem?_cons_succ]
    rw [List.getElem?_append_right (by simp; omega), List.getElem?_append_right (by simp; omega), show 64 + j - (bvs p).length - (bvs s).length = j by simp; omega, List.getElem?_append_left hj]; exact hu)
  refine rgn (Since w3) (by kernel_rfl) (Since.drew _) ?_
  have hS0 : Since w3 w3.drew := Since.drew _
  have hr0 : St w3 w3.drew [] := (St.start w3).drew
  refine tq (i := 0) (v := .pointer (some ⟨g, 0, none⟩)) rfl (by kernel_rfl) (fun _ _ _ h => h) rfl (fun W _ => by go_simp) hS0 ?_
  simp only [Act.put, List.setIfInBounds_toArray, List.set_cons_zero, List.set_cons_succ]
  refine tq (i := 1) rfl (by kernel_rfl) (fun _ _ _ h => h) rfl (fun W hW => run_load1 _ _ rfl _ _ rfl tInt _ (since_cell hcl0 hW)) hS0 ?_
  simp only [Act.put, List.setIfInBounds_toArray, List.set_cons_zero, List.set_cons_succ]
  refine tq (i := 3) (v := .pointer (some ⟨g, 1, none⟩)) rfl (by kernel_rfl) (fun _ _ _ h => h) rfl (fun W _ => by go_simp) hS0 ?_
  simp only [Act.put, List.setIfInBounds_toArray, List.set_cons_zero, List.set_cons_succ]
  refine tq (i := 4) (v := .slice (some ⟨g, 1, none⟩) 32 32) rfl (by kernel_rfl) (fun _ _ _ h => h) rfl (fun W _ => by go_simp) hS0 ?_
  simp only [Act.put, List.setIfInBounds_toArray, List.set_cons_zero, List.set_cons_succ]
  refine tq (i := 5) (v := .pointer (some ⟨g, 33, none⟩)) rfl (by kernel_rfl) (fun _ _ _ h => h) rfl (fun W _ => by go_simp) hS0 ?_
  simp only [Act.put, List.setIfInBounds_toArray, List.set_cons_zero, List.set_cons_succ]
  refine tq (i := 6) (v := .slice (some ⟨g, 33, none⟩) 32 32) rfl (by kernel_rfl) (fun _ _ _ h => h) rfl (fun W _ => by go_simp) hS0 ?_
  simp only [Act.put, List.setIfInBounds_toArray, List.set_cons_zero, List.set_cons_succ]
  refine tq (i := 7) (v := .pointer (some ⟨g, 65, none⟩)) rfl (by kernel_rfl) (fun _ _ _ h => h) rfl (fun W _ => by go_simp) hS0 ?_
  simp only [Act.put, List.setIfInBounds_toArray, List.set_cons_zero, List.set_cons_succ]
  refine tq (i := 8) (v := .slice (some ⟨g, 65, none⟩) 32 32) rfl (by kernel_rfl) (fun _ _ _ h => h) rfl (fun W _ => by go_simp) hS0 ?_
  simp only [Act.put, List.setIfInBounds_toArray, List.set_cons_zero, List.set_cons_succ]
  refine tq (i := 9) (v := .pointer (some ⟨g, 97, none⟩)) rfl (by kernel_rfl) (fun _ _ _ h => h) rfl (fun W _ => by go_simp) hS0 ?_
  simp only [Act.put, List.setIfInBounds_toArray, List.set_cons_zero, List.set_cons_succ]
  refine tq (i := 10) rfl (by kernel_rfl) (fun _ _ _ h => h) rfl (fun W hW => run_load1 _ _ rfl _ _ rfl tInt _ (since_cell hcl4 hW)) hS0 ?_
  simp only [Act.put, List.setIfInBounds_toArray, List.set_cons_zero, List.set_cons_succ]
  refine t1 (i := 2) (by kernel_rfl) rfl rfl (wp_callF 51 _ _ rfl Try.func51 (by kernel_rfl) (by kernel_rfl) [.int .i64 k, .int .i64 8] rfl ((hnumber_calls k 8 (by omega) (by omega) (by have := HK.out; omega) (by have := HK.out; omega) _).mono ?_))
  rintro e w4 ⟨a1, c1, rfl, hd4⟩
  have hr4 := hr0.comp hd4
  refine ⟨_, rfl, hr4.since, ?_⟩
  simp only [Act.put, List.setIfInBounds_toArray, List.set_cons_zero, List.set_cons_succ]
  refine t1 (i := 11) (by kernel_rfl) rfl rfl (wp_callF 51 _ _ rfl Try.func51 (by kernel_rfl) (by kernel_rfl) [.int .i64 m, .int .i64 4] rfl ((hnumber_calls m 4 (by omega) (by omega) (by have := HMM.out; omega) (by have := HMM.out; omega) _).mono ?_))
  rintro e w5 ⟨a2, c2, rfl, hd5⟩
  have hr5 := (hr4.comp hd5)
  refine ⟨_, rfl, hr5.since, ?_⟩
  simp only [Act.put, List.setIfInBounds_toArray, List.set_cons_zero, List.set_cons_succ]
  refine t1 (i := 12) (by kernel_rfl) rfl rfl (wp_buildSliceAll _ 5 _ rfl sParts hr5 [[.slice a1 (digs k 8).length c1], [.slice (some ⟨g, 1, none⟩) 32 32], [.slice (some ⟨g, 33, none⟩) 32 32], [.slice (some ⟨g, 65, none⟩) 32 32], [.slice a2 (digs m 4).length c2]] rfl (by decide) rfl (by simp) (by decide) (fun g2 w6 hr6 => ⟨hr6.since, ?_⟩))
  simp only [Act.put, List.setIfInBounds_toArray, List.set_cons_zero, List.set_cons_succ]
  have q1 := hr6.rcOwn 2 rfl
  have q2 := hr6.rcOwn 1 rfl
  have q0 := hr6.rcOwn 0 rfl
  have hparts := own_parts (c1 := c1) (c2 := c2) HP.out HS.out HR.out q1 q2 (q3.since hr6.since) (q4.since hr6.since) (q5.since hr6.since)
  have HJ := hjoin_calls _ 5 5 _ _ w6 rfl (by decide) q0 hparts (by decide) (by decide) (by simp [Lib.lens, digs_length, HP.out, HS.out, HR.out])
  rw [hbytes_flat] at HJ
  refine t1 (i := 13) (by kernel_rfl) rfl rfl (wp_callF 50 _ _ rfl Try.func50 (by kernel_rfl) (by kernel_rfl) [.slice (some ⟨g2, 0, none⟩) 5 5] rfl (HJ.mono ?_))
  rintro e w7 ⟨a7, c7, rfl, h7, hd7⟩
  have hr7 := hr6.comp hd7
  refine ⟨_, rfl, hr7.since, ?_⟩
  simp only [Act.put, List.setIfInBounds_toArray, List.set_cons_zero, List.set_cons_succ]
  refine tq (i := 14) rfl (by kernel_rfl) (fun _ _ _ h => h) rfl (fun _ _ => rfl) hr7.since ?_
  simp only [Act.put, List.setIfInBounds_toArray, List.set_cons_zero, List.set_cons_succ]
  refine tq (i := 15) rfl (by kernel_rfl) (fun _ _ _ h => h) rfl (fun _ _ => rfl) hr7.since ?_
  simp only [Act.put, List.setIfInBounds_toArray, List.set_cons_zero, List.set_cons_succ]
  refine wpAnyH_done (by kernel_rfl) ?_ _
  go_wp2_with fail
  go_ret2
  refine ⟨a7, c7, rfl, h7, ?_⟩
  have hfin := hs3.comp hr7
  exact ((((hfin.erase 1).erase 1).erase 1).erase 1)
end Go.Proofs.Ytjbjidopjhllbaa
