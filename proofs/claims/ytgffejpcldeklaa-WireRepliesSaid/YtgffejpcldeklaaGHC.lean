/-
  The document's numbers and digests at a place. What is left of a frame: so many bytes are taken of it. Requests: whether one may be, and its bytes, by the document. Whether a request may be: one kind of them. Whether a request may be: one kind of them. Whether a request may be: one kind of them. Whether a request may be: one kind of them. Whether a request may be: one kind of them. Whether a request may be: one kind of them. Whether a request may be, by the document. Requests: their bytes, by the document.
-/
import Derived.Test.YtgffejpcldeklaaWirQ
import Derived.Test.YtgffejpcldeklaaVIfc
import Derived.Test.YtgffejpcldeklaaGC
import Derived.Test.YtgffejpcldeklaaGK
import Derived.Test.YtgffejpcldeklaaGZC
set_option linter.unusedVariables false
set_option linter.unusedSimpArgs false
set_option linter.unusedSectionVars false
set_option maxRecDepth 100000
set_option maxHeartbeats 1000000
namespace Go.Proofs.Ytgffejpcldeklaa
open Go Go.RowKit
open Classical

theorem rnumber22_vc (w0 : World) (L : List Asn) (n : Int) (s : Nat) (h0 : 0 ≤ n) (h1 : n < 9223372036854775808) (hs : 0 < s) (hs8 : s ≤ 8) :
    VC Try.prog w0 53 [.int .i64 n, .int .i64 s] L fun v L' => ∃ a' c', v = .slice a' s c' ∧ L' = ownB a' c' (digs n.toNat s) :: L := by
  obtain ⟨k, rfl⟩ : ∃ k : Nat, n = k := ⟨n.toNat, by omega⟩
  rw [Int.toNat_natCast]
  have hw : IntKind.u64.wrap (k : Int) = (k : Int) := by simp only [IntKind.wrap_u64]; omega
  have hl := digs_length k s
  refine vc_ent ?_
  refine vc_in rfl rfl ?_
  repeat' (first | (refine go1 ?_; intros) | (refine goCC ?_ ?_ <;> (intro hb; (try simp only [hSQ] at hb); try (exfalso; omega))) | fail)
  refine clV ?_
  refine vc_mono (digits_vc w0 _ k s hs hs8 (by omega)) ?_
  rintro v L' ⟨a', c', b, rfl, rfl⟩
  repeat' (first | (refine go1 ?_; intros) | (refine goCC ?_ ?_ <;> (intro hb; (try simp only [hSQ] at hb); try (exfalso; omega))) | fail)
  exact ⟨_, sei _ _ (ownB a' c' (digs k s) :: L), a', c', rfl, rfl⟩
theorem rsmall22_vc (w0 : World) (L : List Asn) (a : Option Addr) (c : Nat) (b : List UInt8) (i s : Nat) {n : Nat} (hn : n = b.length) (hc : b.length ≤ c) (hl : b.length ≤ 1000000) (hi : i ≤ 100000) (hs : s ≤ 8) [hr : RdC w0 L a (bvs b)] :
    VC Try.prog w0 24 [.slice a n c, .int .i64 i, .int .i64 s] L fun v L' => v = .int .i64 (small22 b i s) ∧ L' = L := by
  subst hn
  have hb := numOf_lt ((b.drop i).take s)
  refine vc_ent ?_
  refine vc_in rfl rfl ?_
  by_cases h : b.length < i + s
  · have e : small22 b i s = -1 := by unfold small22; rw [if_pos h]
    rw [e]
    repeat' (first | (refine go1 ?_; intros) | (refine goCC ?_ ?_ <;> (intro hb; (try simp only [hSQ] at hb); try (exfalso; omega))) | fail)
    all_goals first | (exfalso; omega) | exact ⟨L, sei _ _ _, rfl, rfl⟩
  have e : small22 b i s = if 2147483648 ≤ numOf ((b.drop i).take s) then (-1 : Int) else (numOf ((b.drop i).take s) : Int) := by unfold small22; rw [if_neg h]
  have hsl : ((b.drop i).take s).length = s := by simp; omega
  have hc2 : i + s ≤ c := by omega
  haveI hcut := rd_cut (w0 := w0) (L := L) (a := a) (l := b) i (i + s) c hc2
  rw [List.drop_take, Nat.add_sub_cancel_left] at hcut
  rw [e]
  repeat' (first | (refine go1 ?_; intros) | (refine goCC ?_ ?_ <;> (intro hb; (try simp only [hSQ] at hb); try (exfalso; omega))) | fail)
  all_goals first | (exfalso; omega) | skip
  refine clV ?_
  refine vc_mono (number_vc w0 _ (subA a i c 1) (c - i) ((b.drop i).take s) (by omega) (by omega)) ?_
  rintro v L' ⟨rfl, hL⟩
  obtain rfl := hL.symm
  have hb := numOf_lt ((b.drop i).take s)
  generalize numOf ((b.drop i).take s) = N at *
  by_cases h2 : 2147483648 ≤ N
  · rw [if_pos h2]
    repeat' (first | (refine go1 ?_; intros) | (refine goCC ?_ ?_ <;> (intro hb; (try simp only [hSQ] at hb); try (exfalso; omega))) | fail)
    all_goals first | (exfalso; omega) | exact ⟨L, sei _ _ _, rfl, rfl⟩
  · rw [if_neg h2]
    have hw : IntKind.i64.wrap (N : Int) = (N : Int) := by simp only [IntKind.wrap_i64]; omega
    repeat' (first | (refine go1 ?_; intros) | (refine goCC ?_ ?_ <;> (intro hb; (try simp only [hSQ] at hb); try (exfalso; omega))) | fail)
    all_goals first | (exfalso; omega) | exact ⟨L, sei _ _ _, rfl, rfl⟩
/-- A digest, so far. -/
def dgj (b : List UInt8) (i j : Nat) : List UInt8 := (b.drop i).take j ++ List.replicate (32 - ((b.drop i).take j).length) 0
theorem dgj_len (b : List UInt8) (i : Nat) {j : Nat} (hj : j ≤ 32) : (dgj b i j).length = 32 := by
  unfold dgj
  simp only [List.length_append, List.length_replicate, List.length_take, List.length_drop]
  omega
theorem dgj_set {b : List UInt8} {i j : Nat} (h : i + j < b.length) (hj : j < 32) : (dgj b i j).set j b[i + j] = dgj b i (j + 1) := by
  have l1 : ((b.drop i).take j).length = j := by simp; omega
  have l2 : ((b.drop i).take (j + 1)).length = j + 1 := by simp; omega
  unfold dgj
  rw [l1, l2, List.set_append_right _ _ (by omega), l1, Nat.sub_self, show 32 - j = (32 - (j + 1)) + 1 by omega, List.replicate_succ, List.set_cons_zero, List.take_succ_eq_append_getElem (by simp; omega), List.getElem_drop, List.append_assoc]
  rfl
theorem dgj_end {b : List UInt8} {i j : Nat} (hj : j ≤ 32) (h : j = 0 ∨ i + j ≤ b.length) (hn : ¬ (j < 32 ∧ i + j < b.length)) : dgj b i j = dig22 b i := by
  have e : (b.drop i).take j = (b.drop i).take 32 := by
    by_cases h3 : j = 32
    · rw [h3]
    · rw [List.take_of_length_le (by simp; omega), List.take_of_length_le (by simp; omega)]
  unfold dgj dig22
  rw [e]
theorem rdigest22_vc (w0 : World) (L : List Asn) (a : Option Addr) (c : Nat) (b : List UInt8) (i : Nat) {n : Nat} (hn : n = b.length) (hl : b.length ≤ 1000000) (hi : i ≤ 100000) [hr : RdC w0 L a (bvs b)] :
    VC Try.prog w0 27 [.slice a n c, .int .i64 i] L fun v L' => v = .agg (bvs (dig22 b i)).toArray ∧ L' = L := by
  subst hn
  have hdl := dig22_len b i
  refine vc_ent ?_
  refine vc_in rfl rfl ?_
  repeat' (first | (refine go1 ?_; intros) | (refine goCC ?_ ?_ <;> (intro hb; (try simp only [hSQ] at hb); try (exfalso; omega))) | fail)
  rename_i g4 g5
  refine v_loopF Nat [0, 1, 4, 5] rfl (fun j => [(6, .int .i64 j)]) (fun _ j => blk g5 24 (bvs (dgj b i j)) :: blk g4 24 (bvs (List.replicate 32 0)) :: L) (fun j => j ≤ 32 ∧ (j = 0 ∨ i + j ≤ b.length)) (fun j => 32 - j) 0 ⟨by omega, .inl rfl⟩ (by (exact sbS)) (Ent.refl _ _) ?_
  rintro j ⟨hj, hjl⟩
  have hjw := dgj_len b i hj
  by_cases hlt : j < 32 ∧ i + j < b.length
  · obtain ⟨h1, h2⟩ := hlt
    have hg := bvs_at b (i + j) h2
    have hbp : 0 < (bvs b).length := by rw [bvs_length]; omega
    have hst := dgj_set h2 h1
    have hsp : splice (bvs (dgj b i j)) (0 + j) [.int .u8 (b[i + j]).toNat] = bvs (dgj b i (j + 1)) := by
      rw [Nat.zero_add, splice_b _ _ (by omega), hst]
    have hcl : (bvs (dgj b i j)).length = 32 := by rw [bvs_length]; exact hjw
    generalize bvs (dgj b i j) = cs at *
    repeat' (first | (refine go1 ?_; intros) | (refine goCC ?_ ?_ <;> (intro hb; (try simp only [hSQ] at hb); try (exfalso; omega))) | fail)
    rw [hsp]
    exact ⟨rfl, j + 1, ⟨by omega, .inr (by omega)⟩, by omega, by (exact sbS), Ent.refl _ _⟩
  · have e : dgj b i j = dig22 b i := dgj_end hj hjl hlt
    rw [e]
    repeat' (first | (refine go1 ?_; intros) | (refine goCC ?_ ?_ <;> (intro hb; (try simp only [hSQ] at hb); try (exfalso; omega))) | fail)
    all_goals first | (exfalso; omega) | exact ⟨L, sei _ _ _, rfl, rfl⟩
end Go.Proofs.Ytgffejpcldeklaa
namespace Go.Proofs.Ytgffejpcldeklaa
open Go Go.RowKit
open Classical

theorem wtake_vc (w0 : World) (L L0 : List Asn) (kL : SEI L L0) (gr : Nat) (ar : Option Addr) (cr : Nat) (R : List UInt8) (bad : Bool) (n : Nat) (hn : 0 < n) (hn2 : n ≤ 1000) (hc : R.length ≤ cr) (hl : R.length ≤ 1000000) (hr : RdC w0 L0 ar (bvs R)) :
    VC Try.prog w0 59 [.pointer (some ⟨gr, 0, none⟩), .int .i64 n] (blk gr 65 [.slice ar R.length cr, .bool bad] :: L) fun v L' => ∃ a' c' az cz Z ar' cr', v = .slice a' n c' ∧ n ≤ c' ∧ (dropX n R).length ≤ cr' ∧ RdC w0 (ownB az cz Z :: L0) a' (bvs (takeX n R)) ∧ RdC w0 L0 ar' (bvs (dropX n R)) ∧ L' = ownB az cz Z :: blk gr 65 [.slice ar' (dropX n R).length cr', .bool (bad || decide (R.length < n))] :: L := by
  haveI hr1 : RdC w0 L ar (bvs R) := rdC_sei hr kL
  refine vc_ent ?_
  refine vc_in rfl rfl ?_
  by_cases h : R.length < n
  · have e1 : takeX n R = List.replicate n 0 := by unfold takeX; rw [if_pos h]
    have e2 : dropX n R = [] := by unfold dropX; rw [if_pos h]
    rw [e1, e2, decide_eq_true h, Bool.or_true]
    repeat' (first | (refine go1 ?_; intros) | (refine goCC ?_ ?_ <;> (intro hb; (try simp only [hSQ] at hb); try (exfalso; omega))) | fail)
    all_goals first | (exfalso; omega) | skip
    refine vl_o rfl (vo_make (m := n) rfl rfl rfl (by omega) (by omega) rfl ?_)
    intro g
    repeat' (first | (refine go1 ?_; intros) | (refine goCC ?_ ?_ <;> (intro hb; (try simp only [hSQ] at hb); try (exfalso; omega))) | fail)
    refine ⟨ownB (some ⟨g, 0, none⟩) n (List.replicate n 0) :: blk gr 65 [.slice none 0 0, .bool true] :: L, ?_, some ⟨g, 0, none⟩, n, some ⟨g, 0, none⟩, n, List.replicate n 0, none, 0, rfl, Nat.le_refl _, by simp, inferInstance, rdC_nil _ _ _, rfl⟩
    unfold ownB
    rw [List.length_replicate, ← madeB]
    exact Ent.refl _ _
  · have e1 : takeX n R = R.take n := by unfold takeX; rw [if_neg h]
    have e2 : dropX n R = R.drop n := by unfold dropX; rw [if_neg h]
    rw [e1, e2, decide_eq_false h, Bool.or_false]
    repeat' (first | (refine go1 ?_; intros) | (refine goCC ?_ ?_ <;> (intro hb; (try simp only [hSQ] at hb); try (exfalso; omega))) | fail)
    all_goals first | (exfalso; omega) | skip
    haveI := hr
    have q1 := rd_cut (w0 := w0) (L := L0) (a := ar) (l := R) 0 n n (Nat.le_refl _)
    have q2 := rd_drop (w0 := w0) (L := L0) (a := ar) (l := R) n cr hc
    haveI : RdC w0 L0 (subA ar 0 n 1) (bvs (R.take n)) := by simpa using q1
    refine ⟨ownB none 0 [] :: blk gr 65 [.slice (subA ar n cr 1) (R.drop n).length (cr - n), .bool bad] :: L, ?_, subA ar 0 n 1, n - 0, none, 0, [], subA ar n cr 1, cr - n, rfl, Nat.le_refl _, by simp; omega, inferInstance, q2, rfl⟩
    rw [List.length_drop]
    exact (se_own_nil 5 1 _).ent w0
end Go.Proofs.Ytgffejpcldeklaa
namespace Go.Proofs.Ytgffejpcldeklaa
open Go Go.RowKit
open Classical

end Go.Proofs.Ytgffejpcldeklaa
namespace Go.Proofs.Ytgffejpcldeklaa
open Go Go.RowKit
open Classical

end Go.Proofs.Ytgffejpcldeklaa
namespace Go.Proofs.Ytgffejpcldeklaa
open Go Go.RowKit
open Classical

end Go.Proofs.Ytgffejpcldeklaa
namespace Go.Proofs.Ytgffejpcldeklaa
open Go Go.RowKit
open Classical

end Go.Proofs.Ytgffejpcldeklaa
namespace Go.Proofs.Ytgffejpcldeklaa
open Go Go.RowKit
open Classical

end Go.Proofs.Ytgffejpcldeklaa
namespace Go.Proofs.Ytgffejpcldeklaa
open Go Go.RowKit
open Classical

end Go.Proofs.Ytgffejpcldeklaa
namespace Go.Proofs.Ytgffejpcldeklaa
open Go Go.RowKit
open Classical

end Go.Proofs.Ytgffejpcldeklaa
namespace Go.Proofs.Ytgffejpcldeklaa
open Go Go.RowKit
open Classical

end Go.Proofs.Ytgffejpcldeklaa
namespace Go.Proofs.Ytgffejpcldeklaa
open Go Go.RowKit
open Classical

end Go.Proofs.Ytgffejpcldeklaa
