/-
  header.Check, header.number.
-/
import Derived.Test.YtjbjidopjhllbaaHeadC
import Derived.Test.YtjbjidopjhllbaaJoin
namespace Go.Proofs.Ytjbjidopjhllbaa
open Go Go.RowKit
set_option linter.unusedSimpArgs false

/-- May a header be? -/
def hmay (k m : Int) : Bool := !decide (k < 0) && !decide (1073741824 < k) && !decide (m < 0) && !decide (256 < m)
theorem hways (k m : Int) : (decide (k < 0) = true) ∨ (decide (k < 0) = false ∧ decide (1073741824 < k) = true) ∨ (decide (k < 0) = false ∧ decide (1073741824 < k) = false ∧ decide (m < 0) = true) ∨
    (decide (k < 0) = false ∧ decide (1073741824 < k) = false ∧ decide (m < 0) = false ∧ decide (256 < m) = true) ∨ (decide (k < 0) = false ∧ decide (1073741824 < k) = false ∧ decide (m < 0) = false ∧ decide (256 < m) = false) := by
  simp only [decide_eq_true_eq, decide_eq_false_iff_not]
  omega
theorem hcell0 (h : Hdr) : h.cells[0]? = some (.int .i64 h.height) := rfl
theorem hcell4 (h : Hdr) (ho : h.ok) : h.cells[97]? = some (.int .i64 h.many) := by
  obtain ⟨h1, h2, h3⟩ := ho
  simp [Hdr.cells, h1, h2, h3]
/-- What answers an error alone. -/
def RetErr (n : Int) (w : World) (e : Ending) (w' : World) : Prop := e = .returned (.int .i64 n) ∧ St w w' []

theorem tErr : TyI Try.prog 28 false 1 8 [.int .i64 0] := TyI.of (zv := .int .i64 0) (by kernel_rfl) (by kernel_rfl) rfl rfl (by decide)

set_option maxRecDepth 100000 in
set_option maxHeartbeats 1600000 in
theorem hcheck_calls (h : Hdr) (ho : h.ok) (w : World) : Calls Try.prog 35 #[.agg h.cells.toArray] w (RetErr (if hmay h.height h.many then 0 else 8) w) := by
  obtain ⟨v, hv⟩ : ∃ v, v = (if hmay h.height h.many then (0 : Int) else 8) := ⟨_, rfl⟩
  rw [← hv]
  have c0 := hcell0 h
  have c4 := hcell4 h ho
  rcases hways h.height h.many with e1 | ⟨e1, e2⟩ | ⟨e1, e2, e3⟩ | ⟨e1, e2, e3, e4⟩ | ⟨e1, e2, e3, e4⟩
  all_goals
    simp only [hmay, *, Bool.not_true, Bool.not_false, Bool.true_and, Bool.false_and, Bool.and_false, Bool.and_true, if_true, if_false, Bool.false_eq_true] at hv
    subst hv
    go_enter Try.func35, Try.ntmps35
    go_wp2_with (first | (refine lg (wp_box _ (.tmp 0) rfl h.cells rfl (St.start w) ?_); intro g w1 hs1) | (refine lg (wp_load1 _ (.tmp 3) rfl _ _ rfl tInt _ (hs1.cellBlk 0 rfl _ c0) ?_)) | (refine lg (wp_load1 _ (.tmp 7) rfl _ _ rfl tInt _ (hs1.cellBlk 0 rfl _ c0) ?_)) | (refine lg (wp_load1 _ (.tmp 12) rfl _ _ rfl tInt _ (hs1.cellBlk 0 rfl _ c4) ?_)) | (refine lg (wp_load1 _ (.tmp 17) rfl _ _ rfl tInt _ (hs1.cellBlk 0 rfl _ c4) ?_)))
    go_ret
    exact ⟨rfl, hs1.erase 0⟩

set_option maxRecDepth 100000 in
set_option maxHeartbeats 400000 in
theorem hnumber_calls (n s : Nat) (h0 : 0 < s) (h8 : s ≤ 8) (hn : n < 256 ^ s) (hn' : n < 9000000000000000000) (w : World) :
    Calls Try.prog 51 #[.int .i64 n, .int .i64 s] w (RetB (digs n s) w) := by
  have HN : Hid (n < 256 ^ s) := hn
  clear hn
  go_enter Try.func51, Try.ntmps51
  go_wp2_with fail
  refine (put_calls n s h0 h8 HN.out _).mono ?_
  rintro e w1 ⟨a1, c1, rfl, hs1⟩
  go_wp2_with fail
  go_ret
  exact ⟨a1, c1, rfl, hs1⟩

set_option maxRecDepth 100000 in
set_option maxHeartbeats 400000 in
theorem hjoin_calls (a : Option Addr) (n c : Nat) (vs : List Value) (ls : List (List UInt8)) (w : World) (hn : n = ls.length) (h2 : 2 ≤ n) (hc : Rc w a vs) (hp : PartsOf w vs ls) (hcap : n ≤ c) (hn47 : n ≤ 1000000) (hlen : Lib.lens ls ≤ 140737488355328) :
    Calls Try.prog 50 #[.slice a n c] w (RetR ls.flatten w) := by
  have HJ := join_calls a n c vs ls w hn h2 hc hp hcap hn47 hlen
  obtain ⟨x, hx⟩ : ∃ x, x = ls.flatten := ⟨_, rfl⟩
  rw [← hx] at HJ ⊢
  clear hx hc hp hlen hn h2 hcap hn47
  go_enter Try.func50, Try.ntmps50
  go_wp2_with fail
  refine HJ.mono ?_
  rintro e w1 ⟨a1, c1, rfl, h1, hs1⟩
  go_wp2_with fail
  go_ret
  exact ⟨a1, c1, rfl, h1, hs1⟩
end Go.Proofs.Ytjbjidopjhllbaa
