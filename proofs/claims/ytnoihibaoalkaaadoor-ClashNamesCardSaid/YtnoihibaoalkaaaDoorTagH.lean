/-
  What a writer of parts has written, the reader reads.
-/
import Derived.Test.YtnoihibaoalkaaaDoorGF
import Derived.Test.YtnoihibaoalkaaaDoorGC
set_option linter.unusedVariables false
set_option linter.unusedSimpArgs false
namespace Go.Proofs.YtnoihibaoalkaaaDoor
open Go Go.RowKit
set_option linter.unusedVariables false
set_option linter.unusedSimpArgs false

theorem parts_put (x r : List UInt8) (hx : x.length ≤ 4096) : parts (digs x.length 4 ++ x ++ r) = ((parts r).1, x :: (parts r).2) := by
  have hd : (digs x.length 4).length = 4 := digs_length _ _
  have e1 : (digs x.length 4 ++ x ++ r).take 4 = digs x.length 4 := by
    have : (digs x.length 4 ++ (x ++ r)).take (digs x.length 4).length = digs x.length 4 := List.take_left
    rw [hd] at this
    rw [List.append_assoc]; exact this
  have en : numOf ((digs x.length 4 ++ x ++ r).take 4) = x.length := by rw [e1]; exact numOf_digs 4 _ (by decide) (by omega)
  have e2 : (digs x.length 4 ++ x ++ r).drop 4 = x ++ r := by
    have : (digs x.length 4 ++ (x ++ r)).drop (digs x.length 4).length = x ++ r := List.drop_left
    rw [hd] at this
    rw [List.append_assoc]; exact this
  have hlen : (digs x.length 4 ++ x ++ r).length = 4 + x.length + r.length := by simp [hd]; omega
  have := parts_cons (l := digs x.length 4 ++ x ++ r) (by omega) (by rw [en]; omega) (by rw [en]; omega)
  rw [en, ← List.drop_drop, e2, List.take_left, List.drop_left] at this
  exact this
theorem parts_tag : ∀ (xs : List (List UInt8)), (∀ x ∈ xs, x.length ≤ 300) → parts (xs.flatMap fun x => digs x.length 4 ++ x) = (0, xs)
  | [], _ => rfl
  | x :: xs, h => by
    rw [List.flatMap_cons, parts_put x _ (by have := h x (by simp); omega), parts_tag xs (fun y hy => h y (by simp [hy]))]
theorem tagOf_tagB (k : Nat) (hk : k < 256) (xs : List (List UInt8)) (h : ∀ x ∈ xs, x.length ≤ 300) : tagOf (tagB k xs) = (k, xs, 0) := by
  have hp := parts_tag xs h
  rw [tagOf_ok (by simp [tagB]) (by simp only [tagB, List.drop_succ_cons, List.drop_zero, hp])]
  simp only [tagB, List.drop_succ_cons, List.drop_zero, hp, List.getD_cons_zero, UInt8.toNat_ofNat']
  rw [Nat.mod_eq_of_lt (by omega)]
theorem tagB_inj {k k' : Nat} (hk : k < 256) (hk' : k' < 256) {xs ys : List (List UInt8)} (h : ∀ x ∈ xs, x.length ≤ 300) (h' : ∀ x ∈ ys, x.length ≤ 300) : tagB k xs = tagB k' ys ↔ k = k' ∧ xs = ys := by
  refine ⟨fun e => ?_, fun ⟨e1, e2⟩ => by rw [e1, e2]⟩
  have := congrArg tagOf e
  rw [tagOf_tagB k hk xs h, tagOf_tagB k' hk' ys h'] at this
  simp only [Prod.mk.injEq] at this
  exact ⟨this.1, this.2.1⟩
end Go.Proofs.YtnoihibaoalkaaaDoor
