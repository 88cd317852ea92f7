/-
  Numbers and their bytes: the one undoes the other.
-/
import Derived.Test.YtpnhgmmijkjmlaaDoorNumB
namespace Go.Proofs.YtpnhgmmijkjmlaaDoor
open Go Go.RowKit

theorem digs_snoc (n : Nat) : ∀ k, digs n (k + 1) = digs (n / 256) k ++ [UInt8.ofNat n]
  | 0 => by simp [digs]
  | k + 1 => by
    have ih := digs_snoc n k
    have e : n / 256 ^ (k + 1) = n / 256 / 256 ^ k := by rw [Nat.div_div_eq_div_mul, Nat.pow_succ, Nat.mul_comm]
    show UInt8.ofNat (n / 256 ^ (k + 1)) :: digs n (k + 1) = UInt8.ofNat (n / 256 / 256 ^ k) :: digs (n / 256) k ++ [UInt8.ofNat n]
    rw [ih, e]; rfl
theorem pow_le_64 {k : Nat} (h : k ≤ 8) : 256 ^ k ≤ 18446744073709551616 := by
  have := Nat.pow_le_pow_right (n := 256) (by decide) h
  simpa using this
theorem numOf_digs : ∀ (k n : Nat), k ≤ 8 → n < 256 ^ k → numOf (digs n k) = n
  | 0, n, _, h => by simp at h; subst h; rfl
  | k + 1, n, hk, h => by
    have hp := pow_le_64 hk
    have h1 : n / 256 < 256 ^ k := by rw [Nat.pow_succ] at h; omega
    rw [digs_snoc, numOf_snoc, numOf_digs k (n / 256) (by omega) h1, UInt8.toNat_ofNat']
    omega
theorem digs_numOf : ∀ (k : Nat) (l : List UInt8), l.length = k → k ≤ 8 → digs (numOf l) k = l ∧ numOf l < 256 ^ k
  | 0, l, h, _ => by
    have : l = [] := List.eq_nil_of_length_eq_zero h
    subst this; exact ⟨rfl, by decide⟩
  | k + 1, l, h, hk => by
    have e : l = l.take k ++ [l[k]] := by
      have := take_snoc' l k (by omega)
      rwa [List.take_of_length_le (by omega)] at this
    obtain ⟨i1, i2⟩ := digs_numOf k (l.take k) (by simp; omega) (by omega)
    have hc := (l[k]).toNat_lt
    have hp := pow_le_64 hk
    rw [Nat.pow_succ] at hp
    have hn : numOf l = 256 * numOf (l.take k) + (l[k]).toNat := by
      rw [congrArg numOf e, numOf_snoc]
      omega
    refine ⟨?_, by rw [Nat.pow_succ]; omega⟩
    rw [digs_snoc, hn, show (256 * numOf (l.take k) + (l[k]).toNat) / 256 = numOf (l.take k) by omega, i1]
    have : UInt8.ofNat (256 * numOf (l.take k) + (l[k]).toNat) = l[k] := by
      apply UInt8.toNat_inj.1
      rw [UInt8.toNat_ofNat']; omega
    rw [this]; exact e.symm
end Go.Proofs.YtpnhgmmijkjmlaaDoor
