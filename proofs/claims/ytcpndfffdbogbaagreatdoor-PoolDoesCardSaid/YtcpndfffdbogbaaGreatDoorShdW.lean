/-
  What is drawn of a shard and what goes back to it: the law.
-/
import Derived.Test.YtcpndfffdbogbaaGreatDoorGZB
import Derived.Test.YtcpndfffdbogbaaGreatDoorG8
import Derived.Test.YtcpndfffdbogbaaGreatDoorGZA
import Derived.Test.YtcpndfffdbogbaaGreatDoorTC
set_option linter.unusedVariables false
set_option linter.unusedSimpArgs false
set_option linter.unusedSectionVars false

namespace Go.Proofs.YtcpndfffdbogbaaGreatDoor
open Go Go.RowKit
open Classical

theorem drawQ_ts {ls : List Ln} (h : LsOk ls) (h6 : ls.length ≤ 6) (h20 : ∀ l ∈ ls, l.xs.length ≤ 20) (ns : List Nd) (r : Int) (room : Int) : TsOk (drawQ (lls ls) ns r room).2.1 := by
  unfold drawQ
  by_cases hc : MayC (lls ls) ∧ StP ns r
  rotate_left
  · rw [if_neg hc]; exact TsOk.nil
  rw [if_pos hc]
  have hd := drawC_law (f := nonceA ns r) (room := room) hc.1
  have hl := drawC_len (nonceA ns r) room (lls ls) ([], [])
  rw [show (lls ls).foldl (drawS (nonceA ns r) room) ([], []) = drawC (nonceA ns r) room (lls ls) from rfl] at hl
  have h120 : cntC (lls ls) ≤ (lls ls).length * 20 := cntC_le20 (fun c hc => by
    obtain ⟨l, hl, rfl⟩ := List.mem_map.1 hc
    exact h20 l hl)
  rw [List.length_map] at h120
  simp only [List.length_nil, Nat.zero_add] at hl
  refine ⟨fun x hx => ?_, by dsimp only; omega⟩
  obtain ⟨i, hi, rfl⟩ := List.getElem_of_mem hx
  obtain ⟨⟨c, hc, e1, e2, _⟩, _⟩ := hd.from' i hi
  obtain ⟨l, hl, rfl⟩ := List.mem_map.1 hc
  exact (h.ok l hl).ts.ok _ e2
end Go.Proofs.YtcpndfffdbogbaaGreatDoor
