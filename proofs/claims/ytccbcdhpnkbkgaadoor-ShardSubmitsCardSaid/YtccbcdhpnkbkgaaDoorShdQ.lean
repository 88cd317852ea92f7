/-
  Shards: what Submit does, in plain terms; all else stays.
-/
import Derived.Test.YtccbcdhpnkbkgaaDoorShdP
set_option linter.unusedVariables false
set_option linter.unusedSimpArgs false
namespace Go.Proofs.YtccbcdhpnkbkgaaDoor
open Go Go.RowKit
set_option linter.unusedVariables false
set_option linter.unusedSimpArgs false
set_option linter.unusedSectionVars false
open Classical

def lastFee (xs : List Tx) : Nat := (xs.getLast?.map Tx.fee).getD 0
/-- The line whose last transaction goes. -/
noncomputable def worstG (o : List UInt8) : List LC → Nat → Int → Nat → Int
  | [], _, w, _ => w
  | c :: r, i, w, least => if c.1 ≠ o ∧ lastFee c.2 < least then worstG o r (i + 1) i (lastFee c.2) else worstG o r (i + 1) w least
noncomputable def worstC (cs : List LC) (o : List UInt8) (fee : Nat) : Int := worstG o cs 0 (-1) fee
theorem worstG_step {o : List UInt8} {cs : List LC} {i : Nat} (hi : i < cs.length) (w : Int) (least : Nat) : worstG o (cs.drop i) i w least = if cs[i].1 ≠ o ∧ lastFee cs[i].2 < least then worstG o (cs.drop (i + 1)) (i + 1) i (lastFee cs[i].2) else worstG o (cs.drop (i + 1)) (i + 1) w least := by
  rw [List.drop_eq_getElem_cons hi]
  rfl
theorem worstG_is {o : List UInt8} : ∀ (r : List LC) (i : Nat) (w : Int) (least : Nat), worstG o r i w least = w ∨ ∃ j, ∃ hj : j < r.length, worstG o r i w least = ((i + j : Nat) : Int) ∧ r[j].1 ≠ o
  | [], _, _, _ => .inl rfl
  | c :: r, i, w, least => by
    unfold worstG
    split
    · rename_i h
      rcases worstG_is r (i + 1) i (lastFee c.2) with e | ⟨j, hj, e, hn⟩
      · exact .inr ⟨0, by simp, by rw [e]; rfl, h.1⟩
      · exact .inr ⟨j + 1, by simpa using hj, by rw [e]; congr 1; omega, by simpa using hn⟩
    · rcases worstG_is r (i + 1) w least with e | ⟨j, hj, e, hn⟩
      · exact .inl e
      · exact .inr ⟨j + 1, by simpa using hj, by rw [e]; congr 1; omega, by simpa using hn⟩
theorem worstC_is {cs : List LC} {o : List UInt8} {fee : Nat} : worstC cs o fee = -1 ∨ ∃ k, ∃ hk : k < cs.length, worstC cs o fee = (k : Int) ∧ cs[k].1 ≠ o := by
  rcases worstG_is cs 0 (-1) fee with e | ⟨j, hj, e, hn⟩
  · exact .inl e
  · exact .inr ⟨j, hj, by rw [worstC, e, Nat.zero_add], hn⟩
/-- What Submit tells of a shard that may be. -/
noncomputable def submitC (cs : List LC) (cap : Int) (nonce : Nat) (x : Tx) : List LC × List Tx × Int :=
  if x.sign = sgn x then
    if x.nonce < nonce then ([], [], 200)
    else if 16 ≤ x.nonce - nonce ∨ x.nonce = 18446744073709551615 then ([], [], 201)
    else match atT (lineC cs (fromT x)) x.nonce with
      | some y => if x.fee ≤ y.fee then ([], [], 190) else (setC cs (fromT x) (withT (lineC cs (fromT x)) x), [y], 0)
      | none =>
        if 256 ≤ (lineC cs (fromT x)).length then ([], [], 9)
        else if (cntC cs : Int) < cap then (setC cs (fromT x) (withT (lineC cs (fromT x)) x), [], 0)
        else match cs[(worstC cs (fromT x) x.fee).toNat]? with
          | some w => if worstC cs (fromT x) x.fee < 0 then ([], [], 9) else (setC (setC cs w.1 (w.2.take (w.2.length - 1))) (fromT x) (withT (lineC cs (fromT x)) x), w.2.drop (w.2.length - 1), 0)
          | none => ([], [], 9)
  else ([], [], 110)
noncomputable def submitS (cs : List LC) (cap : Int) (nonce : Nat) (x : Tx) : List LC × List Tx × Int := if MayC cs then submitC cs cap nonce x else ([], [], 8)
theorem putT_good {a : Option Addr} {c : Nat} {xs : List Tx} {x : Tx} (h : GoodL (fromT x) xs) (hs : x.sign = sgn x) : putT (Ln.mk (fromT x) a c xs) x = match atT xs x.nonce with
    | some y => if x.fee ≤ y.fee then (z32, [], [], 190) else (fromT x, withT xs x, [y], 0)
    | none => if 256 ≤ xs.length then (z32, [], [], 9) else (fromT x, withT xs x, [], 0) := by
  unfold putT
  rw [if_pos (goodL_iff.2 h), if_pos (ownT_iff.2 ⟨hs, rfl⟩)]
  dsimp only
  cases atT xs x.nonce <;> rfl
theorem GoodL.with {xs : List Tx} {x : Tx} (h : GoodL (fromT x) xs) (hs : x.sign = sgn x) (hl : (withT xs x).length ≤ 256) : GoodL (fromT x) (withT xs x) := ⟨hl, fun y hy => by
  rcases withT_mem hy with rfl | hy
  · exact ownT_iff.2 ⟨hs, rfl⟩
  · exact h.own y hy, h.up.with x⟩
theorem GoodL.take {o : List UInt8} {xs : List Tx} (h : GoodL o xs) (k : Nat) : GoodL o (xs.take k) := ⟨by have := h.len; rw [List.length_take]; omega, fun y hy => h.own y (List.mem_of_mem_take hy), upT_pw.2 ((upT_pw.1 h.up).sublist (List.take_sublist _ _))⟩
theorem GoodL.drop {o : List UInt8} {xs : List Tx} (h : GoodL o xs) (k : Nat) : GoodL o (xs.drop k) := ⟨by have := h.len; rw [List.length_drop]; omega, fun y hy => h.own y (List.mem_of_mem_drop hy), upT_pw.2 ((upT_pw.1 h.up).sublist (List.drop_sublist _ _))⟩
theorem withT_ne (xs : List Tx) (x : Tx) : withT xs x ≠ [] := by
  unfold withT
  simp
/-- What holds of what comes of a Submit. -/
structure Kept (cs : List LC) (cap : Int) (x : Tx) (zs : List LC) (gone : List Tx) : Prop where
  there : atT (lineC zs (fromT x)) x.nonce = some x
  few : gone.length ≤ 1
  may : MayC zs
  k2 : K2 zs
  cnt : cntC zs + gone.length = cntC cs + 1
  stay : ∀ c ∈ cs, ∀ z ∈ c.2, atT (lineC zs c.1) z.nonce = some z ∨ gone = [z]
  room : (cntC zs : Int) ≤ cap ∨ cntC zs ≤ cntC cs
end Go.Proofs.YtccbcdhpnkbkgaaDoor
