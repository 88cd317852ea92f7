/-
  Receipts: whether one may be, its bytes, its reader.
-/
import Derived.Test.YtjbjidopjhllbaaNumB
import Derived.Test.YtjbjidopjhllbaaLawsD
namespace Go.Proofs.Ytjbjidopjhllbaa
open Go Go.RowKit

/-- A receipt as plain data. -/
structure Rcp where
  kind : Nat
  id : List UInt8
  code : Int
deriving DecidableEq

def Rcp.ok (r : Rcp) : Prop := r.kind < 256 ∧ r.id.length = 32
def Rcp.cells (r : Rcp) : List Value := .int .u8 r.kind :: (bvs r.id ++ [.int .i64 r.code])
def Rcp.zero : Rcp := ⟨0, List.replicate 32 0, 0⟩
theorem Rcp.len (r : Rcp) (ho : r.ok) : r.cells.length = 34 := by simp [Rcp.cells, ho.2]
theorem Rcp.zero_ok : Rcp.zero.ok := ⟨by decide, rfl⟩
theorem Rcp.zero_len : Rcp.zero.cells.length = 34 := Rcp.len _ Rcp.zero_ok
theorem Rcp.one (r : Rcp) : ∀ u ∈ r.cells, u.oneCell' = true := by
  intro u hu
  simp only [Rcp.cells, List.mem_cons, List.mem_append, List.not_mem_nil, or_false] at hu
  rcases hu with rfl | hu | rfl
  · rfl
  · exact bvs_one _ u hu
  · rfl
theorem tRcp : TyI Try.prog 43 true 34 48 Rcp.zero.cells := TyI.of (zv := .agg Rcp.zero.cells.toArray) (by kernel_rfl) (by kernel_rfl) rfl rfl (by decide)
theorem fRcp : FlI Try.prog 43 [(0, 1), (1, 32), (33, 1)] := ⟨by kernel_rfl, by kernel_rfl⟩
theorem tErrno : TyI Try.prog 28 false 1 8 [.int .i64 0] := TyI.of (zv := .int .i64 0) (by kernel_rfl) (by kernel_rfl) rfl rfl (by decide)

/-- May a receipt be? -/
def rmay (k : Int) (c : Int) : Bool := (k == 2 && (c == 150 || c == 0 || c == 151)) || (k == 1 && (c == 0 || c == 151))
def RetInt (n : Int) (w : World) (e : Ending) (w' : World) : Prop := e = .returned (.int .i64 n) ∧ St w w' []
theorem rcell0 (r : Rcp) : r.cells[0]? = some (.int .u8 r.kind) := rfl
theorem rcell2 (r : Rcp) (ho : r.ok) : r.cells[33]? = some (.int .i64 r.code) := by
  simp [Rcp.cells, ho.2]

theorem rways (k c : Int) : ((k == 2) = true ∧ (k == 1) = false ∧ (c == 150) = true) ∨ ((k == 2) = true ∧ (k == 1) = false ∧ (c == 150) = false ∧ (c == 0) = true) ∨ ((k == 2) = true ∧ (k == 1) = false ∧ (c == 150) = false ∧ (c == 0) = false ∧ (c == 151) = true) ∨
    ((k == 2) = true ∧ (k == 1) = false ∧ (c == 150) = false ∧ (c == 0) = false ∧ (c == 151) = false) ∨ ((k == 2) = false ∧ (k == 1) = true ∧ (c == 0) = true) ∨ ((k == 2) = false ∧ (k == 1) = true ∧ (c == 0) = false ∧ (c == 151) = true) ∨ ((k == 2) = false ∧ (k == 1) = true ∧ (c == 0) = false ∧ (c == 151) = false) ∨ ((k == 2) = false ∧ (k == 1) = false) := by
  simp only [beq_iff_eq, beq_eq_false_iff_ne, ne_eq]
  omega

set_option maxRecDepth 100000 in
set_option maxHeartbeats 1600000 in
theorem rcheck_calls (r : Rcp) (ho : r.ok) (w : World) : Calls Try.prog 20 #[.agg r.cells.toArray] w (RetInt (if rmay r.kind r.code then 0 else 8) w) := by
  obtain ⟨v, hv⟩ : ∃ v, v = (if rmay r.kind r.code then (0 : Int) else 8) := ⟨_, rfl⟩
  rw [← hv]
  have c0 := rcell0 r
  have c2 := rcell2 r ho
  rcases rways r.kind r.code with ⟨e1, e2, e3⟩ | ⟨e1, e2, e3, e4⟩ | ⟨e1, e2, e3, e4, e5⟩ | ⟨e1, e2, e3, e4, e5⟩ | ⟨e1, e2, e3⟩ | ⟨e1, e2, e3, e4⟩ | ⟨e1, e2, e3, e4⟩ | ⟨e1, e2⟩
  all_goals
    simp only [rmay, *, Bool.true_and, Bool.false_and, Bool.true_or, Bool.or_true, Bool.or_false, if_true, if_false, Bool.false_eq_true] at hv
    subst hv
    go_enter Try.func20, Try.ntmps20
    go_wp2_with (first | (refine lg (wp_box _ (.tmp 0) rfl r.cells rfl (St.start w) ?_); intro g w1 hs1) | (refine lg (wp_load1 _ (.tmp 4) rfl _ _ rfl tByte _ (hs1.cellBlk 0 rfl _ c0) ?_)) | (refine lg (wp_load1 _ (.tmp 10) rfl _ _ rfl tErrno _ (hs1.cellBlk 0 rfl _ c2) ?_)) | (refine lg (wp_load1 _ (.tmp 15) rfl _ _ rfl tErrno _ (hs1.cellBlk 0 rfl _ c2) ?_)) | (refine lg (wp_load1 _ (.tmp 20) rfl _ _ rfl tErrno _ (hs1.cellBlk 0 rfl _ c2) ?_)))
    go_ret
    exact ⟨rfl, hs1.erase 0⟩

end Go.Proofs.Ytjbjidopjhllbaa
