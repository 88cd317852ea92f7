/-
  num.Take and num.Put.
-/
import Derived.Test.YtpnhgmmijkjmlaaDoorNumA
namespace Go.Proofs.YtpnhgmmijkjmlaaDoor
open Go Go.RowKit

theorem numOf_or (n c : Nat) (hc : c < 256) : bits BinOp.or IntKind.u64 (IntKind.u64.wrap ((n : Int) * 256)) (IntKind.u64.wrap (c : Int)) = ((256 * n + c) % 18446744073709551616 : Nat) := by
  have e1 : IntKind.u64.wrap ((n : Int) * 256) = ((n * 256 % 18446744073709551616 : Nat) : Int) := by rw [IntKind.wrap_u64]; omega
  have e2 : IntKind.u64.wrap (c : Int) = (c : Int) := by rw [IntKind.wrap_u64]; omega
  rw [e1, e2, u64_or_nat _ _ (Nat.mod_lt _ (by decide)) (by omega), nat_join8 _ _ (by omega) (by omega)]
  omega

/-- What num.Take answers: the number, and the rest in new memory. -/
def RetTake (n : Nat) (l : List UInt8) (w : World) (e : Ending) (w' : World) : Prop := ∃ a cap, e = .returned (.tuple #[.int .u64 n, .slice a l.length cap, .int .i64 0]) ∧ St w w' [ownB a cap l]

set_option maxRecDepth 100000 in
set_option maxHeartbeats 400000 in
theorem take_short (a : Option Addr) (cap : Nat) (l : List UInt8) (n : Nat) {ln : Nat} (hn : ln = l.length) (h0 : 0 < n) (h8 : n ≤ 8) (h1 : l.length < n) (w : World) :
    Calls Tryd.prog 47 #[.slice a ln cap, .int .i64 n] w fun e w' => e = .returned (.tuple #[.int .u64 0, .slice none 0 0, .int .i64 10]) ∧ w = w' := by
  subst hn
  go_enter Tryd.func47, Tryd.ntmps47
  go_wp2_with fail
  go_ret3
  exact ⟨rfl, rfl⟩

set_option maxRecDepth 100000 in
set_option maxHeartbeats 400000 in
theorem take_calls (a : Option Addr) (cap : Nat) (l : List UInt8) (n : Nat) {ln : Nat} (hn : ln = l.length) (h0 : 0 < n) (h8 : n ≤ 8) (h1 : n ≤ l.length) (hcap : l.length ≤ cap) (w : World) (hl : l.length ≤ 1000000000000) (hc : Rc w a (bvs l)) :
    Calls Tryd.prog 47 #[.slice a ln cap, .int .i64 n] w (RetTake (numOf (l.take n)) (l.drop n) w) := by
  subst hn
  have d1 : decide ((n : Int) < 1) = false := by simp; omega
  have d2 : decide (8 < (n : Int)) = false := by simp; omega
  have d3 : decide (l.length < n) = false := by simp; omega
  go_enter Tryd.func47, Tryd.ntmps47
  go_wp2_with fail
  go_loop [4, 26] (fun v4 v26 => ∃ k : Nat, k ≤ n ∧ v26 = .int .i64 k ∧ v4 = .int .u64 (numOf (l.take k))) (fun v4 v26 => n - (intOf v26).toNat)
  case atStart => exact ⟨0, by omega, rfl, rfl⟩
  case round =>
    obtain ⟨k, hk, rfl, rfl⟩ := hrel
    by_cases hlt : k < n
    · obtain ⟨b, off, rfl, hck⟩ := hc.at k (by simp; omega)
      clear hc
      rw [bvs_get] at hck
      have HS : Hid (numOf (l.take (k + 1)) = (256 * numOf (l.take k) + l[k].toNat) % 18446744073709551616) := by rw [take_snoc' l k (by omega)]; exact numOf_snoc _ _
      go_wp2_with fail
      go_round
      case rel => exact ⟨k + 1, by omega, by go_num, by rw [HS.out]; exact val_int (numOf_or (numOf (l.take k)) (l[k]).toNat (l[k]).toNat_lt)⟩
      case measure => simp [intOf]; omega
    · obtain rfl : k = n := by omega
      have HC : Rc w (subA a k cap 1) (bvs (l.drop k)) := by
        have := hc.cut k l.length cap hcap
        rwa [List.take_length] at this
      go_wp2_with (refine lg (wp_slice _ (.tmp 37) (some (.tmp 38)) none none rfl sBytes rfl k l.length cap ⟨_, _, rfl, rfl⟩ rfl rfl (by simp) h1 hcap (Nat.le_refl _) ?_))
      refine (clone_calls _ _ (l.drop k) _ (by simp) (by simp; omega) HC).mono ?_
      rintro e w1 ⟨a', cap', rfl, hs⟩
      go_wp2_with fail
      go_ret3
      exact ⟨a', cap', by simp, hs⟩

/-- The lowest bytes of a number, the highest one of them first. -/
def digs (n : Nat) : Nat → List UInt8
  | 0 => []
  | k + 1 => UInt8.ofNat (n / 256 ^ k) :: digs n k
theorem digs_length (n : Nat) : ∀ k, (digs n k).length = k
  | 0 => rfl
  | k + 1 => by simp [digs, digs_length n k]

theorem pow_256 (k : Nat) : 2 ^ (8 * k) = 256 ^ k := by rw [Nat.pow_mul]

/-- What num.Put answers. -/
def RetPut (l : List UInt8) (w : World) (e : Ending) (w' : World) : Prop := ∃ a cap, e = .returned (.tuple #[.slice a l.length cap, .int .i64 0]) ∧ St w w' [ownB a cap l]

theorem u8_shr (n k : Nat) : IntKind.u8.wrap ((n : Int) / 2 ^ (8 * k)) = ((UInt8.ofNat (n / 256 ^ k)).toNat : Int) := by
  rw [show (n : Int) / 2 ^ (8 * k) = ((n / 256 ^ k : Nat) : Int) by rw [← pow_256]; simp, IntKind.wrap_u8, UInt8.toNat_ofNat']
  omega

/-- One byte more, ahead of those that are there. -/
theorem splice_fill (s k : Nat) (h : k < s) (c : UInt8) (l : List UInt8) (hl : l.length = k) : splice (bvs (List.replicate (s - k) 0 ++ l)) (s - 1 - k) [bv c] = bvs (List.replicate (s - (k + 1)) 0 ++ c :: l) := by
  have e1 : List.replicate (s - k) (0 : UInt8) = List.replicate (s - (k + 1)) 0 ++ [0] := by
    rw [show s - k = (s - (k + 1)) + 1 by omega, List.replicate_succ']
  rw [e1, splice, bvs_take, bvs_drop]
  have e2 : s - 1 - k = (List.replicate (s - (k + 1)) (0 : UInt8)).length := by simp; omega
  rw [List.append_assoc, List.length_singleton, e2, List.take_left, ← List.drop_drop, List.drop_left]
  simp [bvs]

theorem madeBytes (s : Nat) : (madeCells #[Value.int .u8 0] (s * 1)).toList = bvs (List.replicate (s - 0) 0 ++ []) := by
  rw [Nat.mul_one, toList_madeCells_one]
  simp [bvs, bv]

set_option maxRecDepth 100000 in
set_option maxHeartbeats 800000 in
theorem put_calls (n s : Nat) (h0 : 0 < s) (h8 : s ≤ 8) (hn : n < 256 ^ s) (w : World) :
    Calls Tryd.prog 45 #[.int .u64 n, .int .i64 s] w (RetPut (digs n s) w) := by
  have d1 : decide ((s : Int) < 1) = false := by simp; omega
  have d2 : decide (8 < (s : Int)) = false := by simp; omega
  have d3 : decide (0 < (n : Int) / 2 ^ (8 * s)) = false := by
    rw [show (n : Int) / 2 ^ (8 * s) = ((n / 256 ^ s : Nat) : Int) by rw [← pow_256]; simp, Nat.div_eq_of_lt hn]; rfl
  go_enter Tryd.func45, Tryd.ntmps45
  by_cases h : s < 8
  all_goals
    go_wp2_with (refine lg (wp_make (.tmp 25) (.tmp 25) _ rfl sBytes (St.start w) s rfl rfl rfl rfl (by omega) (by simp [maxLen]; omega) ?_); intro g w1 hs1)
    rw [madeBytes] at hs1
    go_loopw [7, 28] (fun v7 v28 wr => ∃ k : Nat, k ≤ s ∧ v28 = .int .i64 k ∧ St w wr [own 5 1 (some ⟨g, 0, none⟩) s s (bvs (List.replicate (s - k) 0 ++ digs n k))]) (fun _ v28 _ => s - (intOf v28).toNat)
    case atStart => exact ⟨0, by omega, rfl, hs1⟩
    case round =>
      obtain ⟨k, hk, rfl, hs⟩ := hrel
      clear d1 d2 d3 hs1
      by_cases hlt : k < s
      · go_wp2_with (first | (refine lg (wp_indexSl _ (.tmp 31) (.tmp 35) rfl sBytes rfl (s - 1 - k) rfl (by omega) (by omega) ?_)) | (refine lg (wp_storeOwn _ (.tmp 41) (.tmp 40) rfl g 0 ((s - 1 - k) * 1) rfl tByte hs 0 rfl [bv (UInt8.ofNat (n / 256 ^ k))] (congrArg (fun z => [Value.int IntKind.u8 z]) (u8_shr n k)) rfl (fun u hu => by simp at hu; subst hu; rfl) _ rfl (by simp [digs_length]; omega) ?_); intro w2 hs2))
        go_roundw
        case rel => exact ⟨k + 1, by omega, by go_num, by rw [Nat.mul_one, splice_fill s k hlt _ _ (digs_length n k)] at hs2; exact hs2⟩
        case measure => simp [intOf]; omega
      · obtain rfl : k = s := by omega
        go_wp2_with fail
        go_ret2
        exact ⟨some ⟨g, 0, none⟩, k, by simp [digs_length], by unfold ownB; rw [digs_length]; simpa using hs⟩

end Go.Proofs.YtpnhgmmijkjmlaaDoor
