/-
  A version stays: the statement's law.
-/
import Derived.Test.YtmaimkbppnpbnaaDoorTNaA
import Derived.Test.YtmaimkbppnpbnaaDoorTPtD
import Derived.Test.YtmaimkbppnpbnaaDoorTGtA
import Derived.Test.YtmaimkbppnpbnaaDoorGM
set_option linter.unusedVariables false
set_option linter.unusedSimpArgs false
namespace Go.Proofs.YtmaimkbppnpbnaaDoor
open Go Go.RowKit
set_option linter.unusedVariables false
set_option linter.unusedSimpArgs false
open Classical

/-- An older version, in a tree that goes on. -/
theorem GrowR.old {ns ms : List Nd} {s q : Int} {l : List KV} (h : GrowR ns ms s l) (hm : MayP ns q) : MayP ms q ∧ forP ms q.toNat = forP ns q.toNat := by
  have hq : q.toNat ≤ ns.length := by have h1 := hm.hi; have h2 := hm.lo; omega
  have hq2 : q.toNat ≤ (pls ns).length := by simpa using hq
  have e : pls ms = pls ns ++ pls (ms.drop ns.length) := by
    rw [← h.pre]
    unfold pls
    rw [← List.map_append, List.take_append_drop]
  refine ⟨⟨h.may.len, hm.lo, by have h1 := hm.hi; have h2 := h.len; omega, h.may.ones, ?_⟩, ?_⟩
  · have := rightP_app (pls ns) (pls (ms.drop ns.length)) q.toNat 0 zb hq2
    rw [← e, rightP_pl, rightP_pl] at this
    rw [this]
    exact hm.right
  · have := forP_app (pls ns) (pls (ms.drop ns.length)) q.toNat hq2
    rwa [← e, forP_pl, forP_pl] at this
theorem sum_for {ns : List Nd} {q : Int} (hm : MayP ns q) : sumT ns q = rootF 258 (forP ns q.toNat) 0 := by
  unfold sumT
  rw [if_pos hm]
  exact sum_law ns q.toNat 0 257 zb (fun _ _ => rfl) rfl hm.right
end Go.Proofs.YtmaimkbppnpbnaaDoor
