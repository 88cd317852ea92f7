/-
  The document's numbers and digests at a place. What is left of a frame: so many bytes are taken of it. Requests: whether one may be, and its bytes, by the document. Whether a request may be: one kind of them. Whether a request may be: one kind of them. Whether a request may be: one kind of them. Whether a request may be: one kind of them. Whether a request may be: one kind of them. Whether a request may be: one kind of them. Whether a request may be, by the document. Requests: their bytes, by the document.
-/
import Derived.Test.YtcpcbgfnglnkcaaDoorWirQ
import Derived.Test.YtcpcbgfnglnkcaaDoorVIfc
import Derived.Test.YtcpcbgfnglnkcaaDoorGC
import Derived.Test.YtcpcbgfnglnkcaaDoorGK
import Derived.Test.YtcpcbgfnglnkcaaDoorGZC
set_option linter.unusedVariables false
set_option linter.unusedSimpArgs false
set_option linter.unusedSectionVars false
set_option maxRecDepth 100000
set_option maxHeartbeats 1000000
namespace Go.Proofs.YtcpcbgfnglnkcaaDoor
open Go Go.RowKit
open Classical

end Go.Proofs.YtcpcbgfnglnkcaaDoor
namespace Go.Proofs.YtcpcbgfnglnkcaaDoor
open Go Go.RowKit
open Classical

theorem wtake_vc (w0 : World) (L L0 : List Asn) (kL : SEI L L0) (gr : Nat) (ar : Option Addr) (cr : Nat) (R : List UInt8) (bad : Bool) (n : Nat) (hn : 0 < n) (hn2 : n ≤ 1000) (hc : R.length ≤ cr) (hl : R.length ≤ 1000000) (hr : RdC w0 L0 ar (bvs R)) :
    VC Tryd.prog w0 42 [.pointer (some ⟨gr, 0, none⟩), .int .i64 n] (blk gr 66 [.slice ar R.length cr, .bool bad] :: L) fun v L' => ∃ a' c' az cz Z ar' cr', v = .slice a' n c' ∧ n ≤ c' ∧ (dropX n R).length ≤ cr' ∧ RdC w0 (ownB az cz Z :: L0) a' (bvs (takeX n R)) ∧ RdC w0 L0 ar' (bvs (dropX n R)) ∧ L' = ownB az cz Z :: blk gr 66 [.slice ar' (dropX n R).length cr', .bool (bad || decide (R.length < n))] :: L := by
  haveI hr1 : RdC w0 L ar (bvs R) := rdC_sei hr kL
  refine vc_ent ?_
  refine vc_in rfl rfl ?_
  by_cases h : R.length < n
  · have e1 : takeX n R = List.replicate n 0 := by unfold takeX; rw [if_pos h]
    have e2 : dropX n R = [] := by unfold dropX; rw [if_pos h]
    rw [e1, e2, decide_eq_true h, Bool.or_true]
    repeat' (first | (refine go1 ?_; intros) | (refine goCC ?_ ?_ <;> (intro hb; (try simp only [hSQ] at hb); try (exfalso; omega))) | fail)
    all_goals first | (exfalso; omega) | skip
    refine vl_o rfl (vo_make (m := n) rfl rfl rfl (by omega) (by omega) rfl ?_)
    intro g
    repeat' (first | (refine go1 ?_; intros) | (refine goCC ?_ ?_ <;> (intro hb; (try simp only [hSQ] at hb); try (exfalso; omega))) | fail)
    refine ⟨ownB (some ⟨g, 0, none⟩) n (List.replicate n 0) :: blk gr 66 [.slice none 0 0, .bool true] :: L, ?_, some ⟨g, 0, none⟩, n, some ⟨g, 0, none⟩, n, List.replicate n 0, none, 0, rfl, Nat.le_refl _, by simp, inferInstance, rdC_nil _ _ _, rfl⟩
    unfold ownB
    rw [List.length_replicate, ← madeB]
    exact Ent.refl _ _
  · have e1 : takeX n R = R.take n := by unfold takeX; rw [if_neg h]
    have e2 : dropX n R = R.drop n := by unfold dropX; rw [if_neg h]
    rw [e1, e2, decide_eq_false h, Bool.or_false]
    repeat' (first | (refine go1 ?_; intros) | (refine goCC ?_ ?_ <;> (intro hb; (try simp only [hSQ] at hb); try (exfalso; omega))) | fail)
    all_goals first | (exfalso; omega) | skip
    haveI := hr
    have q1 := rd_cut (w0 := w0) (L := L0) (a := ar) (l := R) 0 n n (Nat.le_refl _)
    have q2 := rd_drop (w0 := w0) (L := L0) (a := ar) (l := R) n cr hc
    haveI : RdC w0 L0 (subA ar 0 n 1) (bvs (R.take n)) := by simpa using q1
    refine ⟨ownB none 0 [] :: blk gr 66 [.slice (subA ar n cr 1) (R.drop n).length (cr - n), .bool bad] :: L, ?_, subA ar 0 n 1, n - 0, none, 0, [], subA ar n cr 1, cr - n, rfl, Nat.le_refl _, by simp; omega, inferInstance, q2, rfl⟩
    rw [List.length_drop]
    exact (se_own_nil 5 1 _).ent w0
end Go.Proofs.YtcpcbgfnglnkcaaDoor
namespace Go.Proofs.YtcpcbgfnglnkcaaDoor
open Go Go.RowKit
open Classical

/-- A request of a kind alone. -/
def zK (k : UInt8) : Ask := ⟨k, zeroTx, d32, 0, 0⟩
theorem zK_ok (k : UInt8) : (zK k).ok := ⟨zA_ok.tx, zA_ok.key, zA_ok.h1, zA_ok.h2, zA_ok.s1, zA_ok.s2⟩
theorem zA_cells : bvs (List.replicate 32 0) ++ (bvs (List.replicate 32 0) ++ (.int .u8 0 :: (.int .u64 0 :: (.int .u64 0 :: (.int .u64 0 :: (bvs (List.replicate 32 0) ++ (bvs (List.replicate 32 0) ++ (.int .i64 0 :: [.int .i64 0])))))))) = zA.cells := rfl
end Go.Proofs.YtcpcbgfnglnkcaaDoor
namespace Go.Proofs.YtcpcbgfnglnkcaaDoor
open Go Go.RowKit
open Classical

end Go.Proofs.YtcpcbgfnglnkcaaDoor
namespace Go.Proofs.YtcpcbgfnglnkcaaDoor
open Go Go.RowKit
open Classical

end Go.Proofs.YtcpcbgfnglnkcaaDoor
namespace Go.Proofs.YtcpcbgfnglnkcaaDoor
open Go Go.RowKit
open Classical

end Go.Proofs.YtcpcbgfnglnkcaaDoor
namespace Go.Proofs.YtcpcbgfnglnkcaaDoor
open Go Go.RowKit
open Classical

end Go.Proofs.YtcpcbgfnglnkcaaDoor
namespace Go.Proofs.YtcpcbgfnglnkcaaDoor
open Go Go.RowKit
open Classical

end Go.Proofs.YtcpcbgfnglnkcaaDoor
namespace Go.Proofs.YtcpcbgfnglnkcaaDoor
open Go Go.RowKit
open Classical

end Go.Proofs.YtcpcbgfnglnkcaaDoor
namespace Go.Proofs.YtcpcbgfnglnkcaaDoor
open Go Go.RowKit
open Classical

end Go.Proofs.YtcpcbgfnglnkcaaDoor
namespace Go.Proofs.YtcpcbgfnglnkcaaDoor
open Go Go.RowKit
open Classical

end Go.Proofs.YtcpcbgfnglnkcaaDoor
