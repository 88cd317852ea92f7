/-
  Lines: the ready run. Lines: the document's ready run; what is past. Lines: what is past. Lines: with one more transaction, the document's.
-/
import Derived.Test.YtcpndfffdbogbaaDoorGX
import Derived.Test.YtcpndfffdbogbaaDoorGF
set_option linter.unusedVariables false
set_option linter.unusedSimpArgs false
namespace Go.Proofs.YtcpndfffdbogbaaDoor
open Go Go.RowKit
set_option linter.unusedVariables false
set_option linter.unusedSimpArgs false
open Classical

end Go.Proofs.YtcpndfffdbogbaaDoor
namespace Go.Proofs.YtcpndfffdbogbaaDoor
open Go Go.RowKit
set_option linter.unusedVariables false
set_option linter.unusedSimpArgs false
open Classical

end Go.Proofs.YtcpndfffdbogbaaDoor
namespace Go.Proofs.YtcpndfffdbogbaaDoor
open Go Go.RowKit
set_option linter.unusedVariables false
set_option linter.unusedSimpArgs false
open Classical

theorem loT_take {xs : List Tx} {k i : Nat} (hi : i < xs.length) : loT (xs.take (i + 1)) k = if (xs[i]).nonce < k then loT (xs.take i) k ++ [xs[i]] else loT (xs.take i) k := by
  rw [List.take_succ_eq_append_getElem hi]
  unfold loT
  rw [List.filter_append]
  by_cases e : (xs[i]).nonce < k <;> simp [e]
/-- What is answered: a line, a list, an error. -/
def RLn (L : List Asn) (q : List UInt8 × List Tx × List Tx × Int) (v : Value) (L' : List Asn) : Prop := ∃ a c b d, v = .tuple #[.agg (Ln.mk q.1 a c q.2.1).cells.toArray, .slice b q.2.2.1.length d, .int .i64 q.2.2.2] ∧ L' = ownTs b d q.2.2.1 :: ownTs a c q.2.1 :: L
theorem RLn.bad (w0 : World) (L : List Asn) (e : Int) : ∃ L', Ent w0 L L' ∧ RLn L (z32, [], [], e) (.tuple #[.agg (Ln.mk z32 none 0 []).cells.toArray, .slice none 0 0, .int .i64 e]) L' :=
  ⟨_, ((se_own_nil _ 99 _).trans (se_own_nil _ 99 _)).ent w0, none, 0, none, 0, rfl, rfl⟩
end Go.Proofs.YtcpndfffdbogbaaDoor
namespace Go.Proofs.YtcpndfffdbogbaaDoor
open Go Go.RowKit
set_option linter.unusedVariables false
set_option linter.unusedSimpArgs false
open Classical

theorem gtT_take {xs : List Tx} {k i : Nat} (hi : i < xs.length) : gtT (xs.take (i + 1)) k = if k < (xs[i]).nonce then gtT (xs.take i) k ++ [xs[i]] else gtT (xs.take i) k := by
  rw [List.take_succ_eq_append_getElem hi]
  unfold gtT
  rw [List.filter_append]
  by_cases e : k < (xs[i]).nonce <;> simp [e]
/-- What With has made of the first i. -/
structure WInv (xs : List Tx) (x : Tx) (i : Nat) (done : Bool) (o : List Tx) : Prop where
  le : i ≤ xs.length
  no : done = false → o = loT (xs.take i) x.nonce ∧ gtT (xs.take i) x.nonce = []
  yes : done = true → o = withT (xs.take i) x ∧ ∃ j, ∃ hj : j < xs.length, j < i ∧ x.nonce ≤ (xs[j]).nonce
theorem WInv.ln {xs : List Tx} {x : Tx} {i : Nat} {done : Bool} {o : List Tx} (h : WInv xs x i done o) : o.length ≤ xs.length + 1 := by
  cases done with
  | false => rw [(h.no rfl).1]; exact Nat.le_trans (List.length_filter_le _ _) (by rw [List.length_take]; omega)
  | true => rw [(h.yes rfl).1]; exact Nat.le_trans (withT_len _ _) (by rw [List.length_take]; omega)
theorem WInv.below {xs : List Tx} {x : Tx} {i : Nat} {o : List Tx} (h : WInv xs x i false o) (hi : i < xs.length) (hn : (xs[i]).nonce < x.nonce) : WInv xs x (i + 1) false (o ++ [xs[i]]) := by
  obtain ⟨h1, h2⟩ := h.no rfl
  refine ⟨by omega, fun _ => ?_, fun h => (by cases h)⟩
  rw [loT_take hi, gtT_take hi, if_pos hn, if_neg (by omega), h1]
  exact ⟨rfl, h2⟩
theorem WInv.eq {xs : List Tx} {x : Tx} {i : Nat} {o : List Tx} (h : WInv xs x i false o) (hi : i < xs.length) (hn : (xs[i]).nonce = x.nonce) : WInv xs x (i + 1) true (o ++ [x]) := by
  obtain ⟨h1, h2⟩ := h.no rfl
  refine ⟨by omega, fun h => (by cases h), fun _ => ⟨?_, i, hi, by omega, by omega⟩⟩
  unfold withT
  rw [loT_take hi, gtT_take hi, if_neg (by omega), if_neg (by omega), h1, h2]
theorem WInv.ab {xs : List Tx} {x : Tx} {i : Nat} {o : List Tx} (h : WInv xs x i false o) (hi : i < xs.length) (hn : x.nonce < (xs[i]).nonce) : WInv xs x (i + 1) true (o ++ [x] ++ [xs[i]]) := by
  obtain ⟨h1, h2⟩ := h.no rfl
  refine ⟨by omega, fun h => (by cases h), fun _ => ⟨?_, i, hi, by omega, by omega⟩⟩
  unfold withT
  rw [loT_take hi, gtT_take hi, if_neg (by omega), if_pos hn, h1, h2]
  simp
end Go.Proofs.YtcpndfffdbogbaaDoor
