/-
  The program's reader of kinds and parts.
-/
import Derived.Test.YtpnhgmmijkjmlaaDoorTagD
namespace Go.Proofs.YtpnhgmmijkjmlaaDoor
open Go Go.RowKit
set_option linter.unusedVariables false
set_option linter.unusedSimpArgs false

def RTag (w0 : World) (L : List Asn) (l : List UInt8) (v : Value) (L' : List Asn) : Prop := ∃ L'', Ent w0 L' L'' ∧ ∃ a' cap' ps, v = .tuple #[.int .u8 (tagOf l).1, .slice a' ps.length cap', .int .i64 (tagOf l).2.2] ∧ ls ps = (tagOf l).2.1 ∧ L'' = own 28 1 a' ps.length cap' (pbs ps) :: psA ps :: L
theorem RTag.none {w0 : World} {L L1 : List Asn} {l : List UInt8} {e : Int} (hse : SE L1 L) (ht : tagOf l = (0, [], e)) : RTag w0 L l (.tuple #[.int .u8 0, .slice none 0 0, .int .i64 e]) L1 :=
  ⟨_, (hse.trans ((se_psA_nil L).trans (se_own_nil _ 1 _))).ent w0, Option.none, 0, [], by rw [ht]; rfl, by rw [ht]; rfl, rfl⟩
theorem subA_zero (a : Option Addr) (m s : Nat) : subA a 0 m s = a := by
  unfold subA
  split
  · rfl
  · cases a <;> simp [Addr.add]

theorem step_psA {hs : List PB} {A : Asn} (hA : ∀ M, SE (A :: M) (psA hs :: M)) {N : Nat} (a1 : Option Addr) (c1 : Nat) (l4 : List UInt8) (hN : N ≤ l4.length) (hc : N ≤ c1) : ∀ M, SE (bundle [A, ownB a1 c1 l4] :: M) (psA (hs ++ [⟨subA a1 0 N 1, N - 0, l4.take N⟩]) :: M) := fun M => by
  refine (se_unbundle _ M).trans ((hA _).trans ((se_swap _ _ _).trans ((se_head _ ?_).trans (se_psA_snoc hs M _ _ _))))
  intro w F h
  have := own_cut N N hN hc (Nat.le_refl _) w F h
  rw [subA_zero]
  simpa [ownB, bvs, List.map_take, Nat.min_eq_left hN] using this

end Go.Proofs.YtpnhgmmijkjmlaaDoor
