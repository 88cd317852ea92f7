/-
  A number's bytes, as the program puts them.
-/
import Derived.Test.YtpnhgmmijkjmlaaDoorVMore
namespace Go.Proofs.YtpnhgmmijkjmlaaDoor
open Go Go.RowKit
set_option linter.unusedVariables false
set_option linter.unusedSimpArgs false
attribute [simp] digs_length

theorem put_vc (w0 : World) (L : List Asn) (n s : Nat) (h0 : 0 < s) (h8 : s ≤ 8) (hn : n < 256 ^ s) :
    VC Tryd.prog w0 45 [.int .u64 n, .int .i64 s] L fun v L' => ∃ a' cap', v = .tuple #[.slice a' s cap', .int .i64 0] ∧ L' = ownB a' cap' (digs n s) :: L := by
  refine vc_mono (vc_fresh (R := fun v M => ∃ a' cap', v = .tuple #[.slice a' s cap', .int .i64 0] ∧ M = [ownB a' cap' (digs n s)]) (fun w hs => (put_calls n s h0 h8 hn w).mono ?_)) ?_
  · rintro e w' ⟨a', cap', rfl, hs⟩; rw [digs_length]; exact ⟨_, _, rfl, hs, _, _, rfl, rfl⟩
  · rintro v L' ⟨M, rfl, a', cap', rfl, rfl⟩; exact ⟨_, _, rfl, rfl⟩
theorem madeB (n : Nat) : (madeCells #[.int .u8 0] (n * 1)).toList = bvs (List.replicate n 0) := by
  rw [madeBytes]; simp

/-! ### Structs of which some fields are written out -/
def evP (fr : Fr) : List (Nat × Operand) → Option (List (Nat × List Value))
  | [] => some []
  | (i, x) :: ps => match evA fr x, evP fr ps with
    | some v, some vs => some ((i, v.cells.toList) :: vs)
    | _, _ => none
section
variable {P : Program} {w0 : World} {n : Nat} {ds : List Deferred} {fr : Fr} {L : List Asn} {dst : Option Nat} {ty : TypeId} {pos : String} {after : Array Edge} {gd : Option (Nat × Bool)} {t : TypeId}
theorem Kn.partsP {a : Act} (hk : Kn n ds a fr) : ∀ (parts : List (Nat × Operand)) (vs : List (Nat × List Value)), evP fr parts = some vs → parts.map (fun p => (p.1, (a.eval p.2).cells.toList)) = vs
  | [], vs, h => by simp only [evP, Option.some.injEq] at h; subst h; rfl
  | (i, x) :: ps, vs, h => by
    simp only [evP] at h
    split at h
    · rename_i v us h1 h2
      simp only [Option.some.injEq] at h
      subst h
      simp only [List.map_cons, hk.ev h1, hk.partsP ps us h2]
    · cases h
theorem vq_buildP {size bytes : Nat} {z cs : List Value} {parts : Array (Nat × Operand)} [ht : TyI P t true size bytes z] {pl : List (Nat × Nat)} [hf : FlI P t pl] {vs : List (Nat × List Value)} (hv : evP fr parts.toList = some vs) (hok : ∀ p ∈ vs, okS pl size p) (hcs : fillS pl z vs = cs) : VQ P w0 n ⟨dst, .build t parts, ty, pos, after, gd⟩ (.agg cs.toArray) ds fr L :=
  vq_val (fun a w hk hs => run_build t parts rfl ht hf vs (hk.partsP _ _ hv) hok cs hcs)
end
@[simp] theorem splice_len (cs : List Value) (k : Nat) (vs : List Value) (h : k + vs.length ≤ cs.length) : (splice cs k vs).length = cs.length := by
  simp [splice]; omega
end Go.Proofs.YtpnhgmmijkjmlaaDoor
