/-
  Bytes turned on. What is the same is known to be. slices.Equal of bytes.
-/
import Derived.Test.YtcpcbgfnglnkcaaDoorGC
import Derived.Test.YtcpcbgfnglnkcaaDoorGF
set_option linter.unusedVariables false
set_option linter.unusedSimpArgs false
set_option linter.unusedSectionVars false

namespace Go.Proofs.YtcpcbgfnglnkcaaDoor
open Go Go.RowKit

end Go.Proofs.YtcpcbgfnglnkcaaDoor
namespace Go.Proofs.YtcpcbgfnglnkcaaDoor
open Go Go.RowKit
open Classical

section
variable {P : Program} {ro : Option Nat} {w0 : World} {n : Nat} {ds : List Deferred} {fr : Fr} {L : List Asn} {Q : Exit → List Deferred → Fr → List Asn → Prop} {ops : Array Oper} {rest : List Oper} {d : Nat} {dst : Option Nat} {ty : TypeId} {pos : String} {after : Array Edge} {gd : Option (Nat × Bool)}
end
end Go.Proofs.YtcpcbgfnglnkcaaDoor
namespace Go.Proofs.YtcpcbgfnglnkcaaDoor
open Go Go.RowKit

set_option maxHeartbeats 1000000 in
theorem eqB_vc (w0 : World) (L : List Asn) (a : Option Addr) (cap : Nat) (xs : List UInt8) (b : Option Addr) (cb : Nat) (ys : List UInt8) {n m : Nat} (hn : n = xs.length) (hm : m = ys.length) (hl : xs.length ≤ 1000000000000) [hr : RdC w0 L a (bvs xs)] [hs : RdC w0 L b (bvs ys)] :
    VC Tryd.prog w0 57 [.slice a n cap, .slice b m cb] L fun v L' => v = .bool (decide (xs = ys)) ∧ L' = L := by
  subst hn; subst hm
  refine vc_in rfl rfl ?_
  repeat' (first | (refine go1 ?_; intros) | (refine goCC ?_ ?_ <;> (intro hb; (try simp only [hSQ] at hb); try (exfalso; omega))) | fail)
  · exact ⟨by rw [decide_eq_false]; intro e; have := congrArg List.length e; omega, rfl⟩
  have hlen : xs.length = ys.length := by omega
  refine v_loopS Nat [0, 1, 12] rfl (fun k => [(13, .int .i64 k)]) (fun k => k ≤ xs.length ∧ xs.take k = ys.take k) (fun k => xs.length - k) 0 ⟨Nat.zero_le _, rfl⟩ (by (exact sbS)) (fun k ⟨hk, heq⟩ => ?_)
  by_cases hlt : k < xs.length
  · have hlt' : k < ys.length := by omega
    have hgx := bvs_at xs k hlt
    have hgy := bvs_at ys k hlt'
    repeat' (first | (refine go1 ?_; intros) | (refine goCC ?_ ?_ <;> (intro hb; (try simp only [hSQ] at hb); try (exfalso; omega))) | fail)
    (refine v_draw0 [] (by kernel_rfl) ?_ <;> (refine tA 0 ?_) <;> (refine tA 1 ?_) <;> (refine tA 2 ?_) <;> (refine tA 3 ?_) <;> (refine tA 4 ?_) <;> (refine tA 5 ?_) <;> (refine tA 6 ?_) <;> (refine tA 7 ?_) <;> (refine tA 8 ?_) <;> (refine va_done (by kernel_rfl) ?_))
    repeat' (first | (refine go1 ?_; intros) | (refine goCC ?_ ?_ <;> (intro hb; (try simp only [hSQ] at hb); try (exfalso; omega))) | fail)
    · refine ⟨?_, rfl⟩
      rw [decide_eq_false]
      intro e
      exact hb (by simp [e])
    · refine ⟨rfl, k + 1, ⟨by omega, take_eq_step hlt hlt' heq (UInt8.toNat_inj.1 (Int.ofNat_inj.1 hb))⟩, by omega, ?_, Ent.refl _ _⟩
      (exact sbS)
  · obtain rfl : k = xs.length := by omega
    repeat' (first | (refine go1 ?_; intros) | (refine goCC ?_ ?_ <;> (intro hb; (try simp only [hSQ] at hb); try (exfalso; omega))) | fail)
    refine ⟨by rw [decide_eq_true]; rwa [List.take_of_length_le (by omega), List.take_of_length_le (by omega)] at heq, rfl⟩
end Go.Proofs.YtcpcbgfnglnkcaaDoor
