/-
  Pools, plainly: how many shards there are changes nothing of what a sender has.
-/
import Derived.Test.YtcpndfffdbogbaaDoorPolX
set_option linter.unusedVariables false
set_option linter.unusedSimpArgs false
namespace Go.Proofs.YtcpndfffdbogbaaDoor
open Go Go.RowKit
set_option linter.unusedVariables false
set_option linter.unusedSimpArgs false
set_option linter.unusedSectionVars false
open Classical

def cntO (cs : PC) : Nat := (cs.map cntC).sum
theorem cntO_shl (ss : List Sh) : cntO (shl ss) = cntS ss := by
  unfold cntO cntS shl
  rw [List.map_map]
  congr 1
  refine List.map_congr_left fun s _ => ?_
  exact (cntL_lls s.ls).symm
theorem sum_set {cs : PC} {i : Nat} (hi : i < cs.length) (z : List LC) : cntO (cs.set i z) + cntC cs[i] = cntO cs + cntC z := by
  unfold cntO
  induction cs generalizing i with
  | nil => exact absurd hi (by simp)
  | cons c cs ih =>
    cases i with
    | zero =>
      simp only [List.set_cons_zero, List.map_cons, List.sum_cons, List.getElem_cons_zero]
      omega
    | succ i =>
      have := ih (i := i) (by simpa using hi)
      simp only [List.set_cons_succ, List.map_cons, List.sum_cons, List.getElem_cons_succ]
      omega
/-- Two pools, one of so many shards and one of one, that have the same of every sender. -/
structure Any (cs : PC) (bs : List LC) (k : Nat) : Prop where
  mayA : MayO cs
  mayB : MayO [bs]
  k2A : ∀ c ∈ cs, K2 c
  k2B : K2 bs
  line : ∀ o : List UInt8, o.length = 32 → lineC (atC cs (atN o cs.length)) o = lineC bs o
  cnt : cntO cs = cntC bs
  few : cntC bs ≤ k
theorem mayO_zero {n : Nat} (h1 : 1 ≤ n) (h8 : n ≤ 8) : MayO (List.replicate n []) := ⟨by simpa using h1, by simpa using h8, fun i hi => by
  rw [List.getElem_replicate]
  exact ⟨⟨fun _ h => (by cases h), fun _ h => (by cases h), List.Pairwise.nil⟩, fun _ h => (by cases h)⟩⟩
end Go.Proofs.YtcpndfffdbogbaaDoor
