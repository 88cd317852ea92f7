/-
  Numbers of bytes; bytes copied, cut and compared.
-/
import Derived.Test.YtpnhgmmijkjmlaaDoorTypes
namespace Go.Proofs.YtpnhgmmijkjmlaaDoor
open Go Go.RowKit

/-- The number that bytes are, as the loop reckons it. -/
def numOf (l : List UInt8) : Nat := l.foldl (fun n c => (256 * n + c.toNat) % 18446744073709551616) 0
theorem numOf_lt (l : List UInt8) : numOf l < 18446744073709551616 := by
  have : ∀ (l : List UInt8) n, n < 18446744073709551616 → l.foldl (fun n (c : UInt8) => (256 * n + c.toNat) % 18446744073709551616) n < 18446744073709551616 := by
    intro l
    induction l with
    | nil => intro n h; exact h
    | cons c l ih => intro n _; exact ih _ (Nat.mod_lt _ (by decide))
  exact this l 0 (by decide)
theorem numOf_snoc (l : List UInt8) (c : UInt8) : numOf (l ++ [c]) = (256 * numOf l + c.toNat) % 18446744073709551616 := by simp [numOf]
theorem take_snoc' (l : List UInt8) (k : Nat) (h : k < l.length) : l.take (k + 1) = l.take k ++ [l[k]] := by
  rw [List.take_succ_eq_append_getElem h]
theorem numOf_step (n c : Nat) : IntKind.u64.wrap (IntKind.u64.wrap (256 * (n : Int)) + IntKind.u64.wrap (c : Int)) = ((256 * n + c) % 18446744073709551616 : Nat) := by
  simp only [IntKind.wrap_u64]; omega

theorem ret_int {k : IntKind} {a b : Int} (h : a = b) : Ending.returned (.int k a) = .returned (.int k b) := by rw [h]
theorem val_int {k : IntKind} {a b : Int} (h : a = b) : Value.int k a = .int k b := by rw [h]

set_option maxHeartbeats 400000 in
theorem number_calls (a : Option Addr) (cap : Nat) (l : List UInt8) (w : World) {n : Nat} (hn : n = l.length) (hl : l.length ≤ 1000000000000) (hc : Rc w a (bvs l)) :
    Calls Tryd.prog 50 #[.slice a n cap] w fun e w' => e = .returned (.int .u64 (numOf l)) ∧ w = w' := by
  subst hn
  go_enter Tryd.func50, Tryd.ntmps50
  go_wp2
  go_loop [3, 4] (fun v3 v4 => ∃ k : Nat, k ≤ l.length ∧ v4 = .int .i64 k ∧ v3 = .int .u64 (numOf (l.take k))) (fun v3 v4 => l.length - (intOf v4).toNat)
  case atStart => exact ⟨0, by omega, rfl, rfl⟩
  case round =>
    obtain ⟨k, hk, rfl, rfl⟩ := hrel
    by_cases hlt : k < l.length
    · obtain ⟨b, off, rfl, hck⟩ := hc.at k (by simpa using hlt)
      clear hc
      rw [bvs_get] at hck
      have HS : Hid (numOf (l.take (k + 1)) = (256 * numOf (l.take k) + l[k].toNat) % 18446744073709551616) := by rw [take_snoc' l k hlt]; exact numOf_snoc _ _
      go_wp2
      go_round
      case rel => exact ⟨k + 1, by omega, by go_num, by rw [HS.out]; exact val_int (numOf_step _ _)⟩
      case measure => simp [intOf]; omega
    · go_wp2
      go_ret
      exact ⟨ret_int (by rw [List.take_of_length_le (by omega)]), rfl⟩
/-- A slice of bytes in new memory is returned. -/
def RetB (l : List UInt8) (w : World) (e : Ending) (w' : World) : Prop := ∃ a cap, e = .returned (.slice a l.length cap) ∧ St w w' [ownB a cap l]

set_option maxHeartbeats 400000 in
theorem twin_calls (a : Option Addr) (cap : Nat) (l : List UInt8) (w : World) {n : Nat} (hn : n = l.length) (hl : l.length ≤ 1000000000000) (hc : Rc w a (bvs l)) :
    Calls Tryd.prog 25 #[.slice a n cap] w (RetB l w) := by
  subst hn
  go_enter Tryd.func25, Tryd.ntmps25
  go_wp2_with (refine lg (wp_append0 (.tmp 4) (.tmp 5) 28 rfl sBytes (St.start w) rfl rfl (bvs l) (by simp) hc (bvs_one l) (by simp [maxLen]; omega) (by omega) ?_); intro a' cap' w' hs _)
  go_ret
  exact ⟨a', cap', rfl, hs⟩

set_option maxRecDepth 100000 in
set_option maxHeartbeats 400000 in
theorem clone_calls (a : Option Addr) (cap : Nat) (l : List UInt8) (w : World) {n : Nat} (hn : n = l.length) (hl : l.length ≤ 1000000000000) (hc : Rc w a (bvs l)) :
    Calls Tryd.prog 69 #[.slice a n cap] w (RetB l w) := by
  subst hn
  go_enter Tryd.func69, Tryd.ntmps69
  cases a with
  | none =>
    go_wp2_with (refine lg (wp_eqNil _ _ (.tmp 3) _ rfl sBytes rfl rfl ?_))
    have : l = [] := by
      rcases hc with h | ⟨b, off, e, _⟩
      · simpa [bvs] using h
      · cases e
    subst this
    go_ret
    exact ⟨none, 0, rfl, (St.start w).nil _ _⟩
  | some ad =>
    go_wp2_with (first | (refine lg (wp_eqNil _ _ (.tmp 3) _ rfl sBytes rfl rfl ?_)) | (refine lg (wp_buildSlice0 _ rfl sBytes (St.start w) ?_); intro g w1 hs1) | (refine lg (wp_append (.tmp 5) (.tmp 6) _ rfl sBytes hs1 0 rfl rfl rfl (bvs l) (by simp) (hc.below hs1.below) (bvs_one l) (by simp [maxLen]; omega) (by omega) ?_); intro a' cap' w' hs _))
    go_ret
    exact ⟨a', cap', rfl, by simpa using hs⟩

set_option maxRecDepth 100000 in
theorem same_calls (a : Option Addr) (cap : Nat) (l : List UInt8) (b : Option Addr) (cbp : Nat) (m : List UInt8) (w : World) {n k : Nat} (hn : n = l.length) (hk : k = m.length) (hc : Rc w a (bvs l)) (hd : Rc w b (bvs m)) :
    Calls Tryd.prog 15 #[.slice a n cap, .slice b k cbp] w fun e w' => e = .returned (.bool (decide (l = m))) ∧ w = w' := by
  subst hn; subst hk
  go_enter Tryd.func15, Tryd.ntmps15
  go_wp2_with (first | (refine lg (wp_toStr (.tmp 5) rfl l rfl hc ?_)) | (refine lg (wp_toStr (.tmp 7) rfl m rfl hd ?_)) | (refine lg (wp_eqStr _ _ (.tmp 6) (.tmp 8) rfl l m rfl rfl ?_)))
  go_ret
  exact ⟨rfl, rfl⟩

end Go.Proofs.YtpnhgmmijkjmlaaDoor
