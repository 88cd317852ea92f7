/-
  The table of the rounds' words, as the program's own text lays it.
-/
import Derived.Test.YtcpcbgfnglnkcaaDoorRows
import Derived.Test.YtcpcbgfnglnkcaaDoorCards
import Derived.Test.YtcpcbgfnglnkcaaDoorTie
import Derived.Test.YtcpcbgfnglnkcaaDoorGD
import Derived.ProofKit
import Derived.OpenShut
import Derived.LaidMore
import Derived.Lay
import Derived.SevenTiedAt
import Derived.Stop.Joined
set_option linter.unusedVariables false
set_option linter.unusedSimpArgs false
set_option linter.unusedSectionVars false

namespace Go.Proofs.YtcpcbgfnglnkcaaDoor
open Go Go.RowKit Go.ChangeShapes Go.WideShapes Go.ChangeAt

def laidK : List (String × DataW Unit) := [("beadroll/sha.k", Rows.laid_beadroll_sha_k)]
set_option maxRecDepth 100000 in
theorem laidK_datum : (Rows.laid_beadroll_sha_k : DataW Unit) = .agg (K64.map fun x => .lit (.int .u32 (x.toNat : Int))) := by kernel_rfl
set_option maxRecDepth 100000 in
theorem kcells {W : World} (h : laidMetH Tryd.prog laidK W) : Rc W (some ⟨1, 0, none⟩) (wds K64) := by
  rw [MakeChecks.laidMetH_plain _ _ _ (by kernel_rfl)] at h
  obtain ⟨ps, ⟨g, t, cs, fuel, p, q, hg, ht, hv, hd, _, _⟩, _, _⟩ := h
  obtain rfl := Option.some.inj ((show Tryd.prog.globalNamed "beadroll/sha.k" = some 1 by kernel_rfl).symm.trans hg)
  obtain rfl := Option.some.inj ((show (Tryd.prog.globals[1]?).map (·.type) = some 159 by kernel_rfl).symm.trans ht)
  obtain ⟨xs, m, _, ex, _, hl, hel⟩ := DataW.trod_array Tryd.underlying159 hd
  have c5 : Tryd.prog.cellsOf 154 = 1 := by kernel_rfl
  refine .inr ⟨_, 0, rfl, fun r u hu => ?_⟩
  have hr : r < 64 := by
    rcases Nat.lt_or_ge r 64 with h | h
    · exact h
    · rw [List.getElem?_eq_none (by rw [wds_length, K64_length]; exact h)] at hu; cases hu
  rw [K64_at r hr] at hu
  obtain rfl := Option.some.inj hu
  have hE := hel r hr
  rw [c5, Nat.mul_one, List.getElem?_eq_getElem (by omega)] at hE
  obtain ⟨z, e1, e2, _⟩ := DataW.trod_int Tryd.underlying154 hE
  have e3 : (xs.map (·.1)) = K64.map fun x => .lit (.int .u32 (x.toNat : Int)) := (DataW.agg.inj ((laidK_datum.symm.trans (Prod.mk.inj ex).1))).symm
  have e4 : (xs.map (·.1))[r]? = (K64.map fun x => (DataW.lit (.int .u32 (x.toNat : Int)) : DataW Unit))[r]? := by rw [e3]
  rw [List.getElem?_map, List.getElem?_map, List.getElem?_eq_getElem (by omega : r < xs.length), List.getElem?_eq_getElem (by rw [K64_length]; exact hr : r < K64.length), e2] at e4
  have hz : z = ((K64.getD r 0).toNat : Int) := by
    simp only [Option.map_some, Option.some.injEq, DataW.lit.injEq, Lit.int.injEq, true_and] at e4
    rw [e4, getD_at _ _ (by rw [K64_length]; exact hr)]
  rw [Nat.zero_add, World.var?_cell hg hv r, ← hz]
  have : cs.toList[r]? = some (.int .u32 z) := by
    have h0 : ((cs.toList.drop r).take 1)[0]? = some (.int .u32 z) := by rw [e1]; rfl
    simpa using h0
  simpa using this
theorem ownK : ownKnob Tryd.prog.godebug = none := by kernel_rfl
theorem laidOutK : laidOutB Tryd.prog = true := by kernel_rfl
end Go.Proofs.YtcpcbgfnglnkcaaDoor
