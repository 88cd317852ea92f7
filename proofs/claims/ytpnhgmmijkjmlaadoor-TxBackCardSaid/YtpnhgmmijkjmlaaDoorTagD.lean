/-
  The kind and the parts of a text: the plain answer; the reference's reader.
-/
import Derived.Test.YtpnhgmmijkjmlaaDoorVMore
import Derived.Test.YtpnhgmmijkjmlaaDoorTagC
namespace Go.Proofs.YtpnhgmmijkjmlaaDoor
open Go Go.RowKit
set_option linter.unusedVariables false
set_option linter.unusedSimpArgs false

/-- The parts of bytes, and the error (0: none). -/
def partsG : Nat → List UInt8 → Int × List (List UInt8)
  | 0, _ => (0, [])
  | f + 1, l => if l.length = 0 then (0, []) else if l.length < 4 then (10, []) else
    if 4096 < numOf (l.take 4) then (4, []) else if l.length - 4 < numOf (l.take 4) then (10, []) else
    ((partsG f (l.drop (4 + numOf (l.take 4)))).1, (l.drop 4).take (numOf (l.take 4)) :: (partsG f (l.drop (4 + numOf (l.take 4)))).2)
theorem partsG_fuel : ∀ (f g : Nat) (l : List UInt8), l.length ≤ f → l.length ≤ g → partsG f l = partsG g l
  | 0, 0, _, _, _ => rfl
  | 0, g + 1, l, h, _ => by simp [partsG, show l.length = 0 by omega]
  | f + 1, 0, l, _, h => by simp [partsG, show l.length = 0 by omega]
  | f + 1, g + 1, l, hf, hg => by
    simp only [partsG]
    by_cases h0 : l.length = 0
    · simp [h0]
    · rw [partsG_fuel f g (l.drop (4 + numOf (l.take 4))) (by simp; omega) (by simp; omega)]
def parts (l : List UInt8) : Int × List (List UInt8) := partsG l.length l
theorem parts_nil : parts [] = (0, []) := rfl
theorem parts_short {l : List UInt8} (h0 : 0 < l.length) (h : l.length < 4) : parts l = (10, []) := by
  obtain ⟨f, hf⟩ : ∃ f, l.length = f + 1 := ⟨l.length - 1, by omega⟩
  rw [parts, hf, partsG]; simp [h, show ¬ l.length = 0 by omega]
theorem parts_many {l : List UInt8} (h : ¬ l.length < 4) (hm : 4096 < numOf (l.take 4)) : parts l = (4, []) := by
  obtain ⟨f, hf⟩ : ∃ f, l.length = f + 1 := ⟨l.length - 1, by omega⟩
  rw [parts, hf, partsG]; simp [h, hm, show ¬ l.length = 0 by omega]
theorem parts_end {l : List UInt8} (h : ¬ l.length < 4) (hm : ¬ 4096 < numOf (l.take 4)) (hs : l.length - 4 < numOf (l.take 4)) : parts l = (10, []) := by
  obtain ⟨f, hf⟩ : ∃ f, l.length = f + 1 := ⟨l.length - 1, by omega⟩
  rw [parts, hf, partsG]; simp [h, hm, hs, show ¬ l.length = 0 by omega]
theorem parts_cons {l : List UInt8} (h : ¬ l.length < 4) (hm : ¬ 4096 < numOf (l.take 4)) (hs : ¬ l.length - 4 < numOf (l.take 4)) : parts l = ((parts (l.drop (4 + numOf (l.take 4)))).1, (l.drop 4).take (numOf (l.take 4)) :: (parts (l.drop (4 + numOf (l.take 4)))).2) := by
  obtain ⟨f, hf⟩ : ∃ f, l.length = f + 1 := ⟨l.length - 1, by omega⟩
  rw [parts, hf, partsG]
  simp only [h, hm, hs, show ¬ l.length = 0 by omega, if_false]
  rw [parts, partsG_fuel f (l.drop (4 + numOf (l.take 4))).length (l.drop (4 + numOf (l.take 4))) (by simp; omega) (Nat.le_refl _)]
/-- What a text's reader answers. -/
def tagOf (l : List UInt8) : Nat × List (List UInt8) × Int :=
  if l.length = 0 then (0, [], 10) else if (parts (l.drop 1)).1 = 0 then ((l.getD 0 0).toNat, (parts (l.drop 1)).2, 0) else (0, [], (parts (l.drop 1)).1)
theorem tagOf_nil {l : List UInt8} (h : l.length = 0) : tagOf l = (0, [], 10) := by simp [tagOf, h]
theorem tagOf_err {l : List UInt8} {e : Int} (h : l.length ≠ 0) (he : e ≠ 0) (hp : (parts (l.drop 1)).1 = e) : tagOf l = (0, [], e) := by unfold tagOf; rw [if_neg h, hp, if_neg he]
theorem tagOf_ok {l : List UInt8} (h : l.length ≠ 0) (hp : (parts (l.drop 1)).1 = 0) : tagOf l = ((l.getD 0 0).toNat, (parts (l.drop 1)).2, 0) := by unfold tagOf; rw [if_neg h, if_pos hp]
/-- With parts that have been read. -/
def more (acc : List (List UInt8)) (r : Int × List (List UInt8)) : Int × List (List UInt8) := (r.1, acc ++ r.2)

end Go.Proofs.YtpnhgmmijkjmlaaDoor
