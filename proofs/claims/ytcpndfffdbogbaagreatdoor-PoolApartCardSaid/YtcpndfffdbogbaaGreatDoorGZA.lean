/-
  Shards: the chapter's first examples. Shards: the chapter's shard, and what holds of it. What is submitted to a shard is there, and all else stays: the law. Shards: the chapter's examples.
-/
import Derived.Test.YtcpndfffdbogbaaGreatDoorGU
import Derived.Test.YtcpndfffdbogbaaGreatDoorVStates
import Derived.Test.YtcpndfffdbogbaaGreatDoorGS
set_option linter.unusedVariables false
set_option linter.unusedSimpArgs false
namespace Go.Proofs.YtcpndfffdbogbaaGreatDoor
open Go Go.RowKit
set_option linter.unusedVariables false
set_option linter.unusedSimpArgs false
set_option linter.unusedSectionVars false

def kF (p : UInt8) : List UInt8 := sha (tagB 3 [dig1 p])
open Classical

def oneF (p : UInt8) (n f : Nat) : Tx := signed ⟨dig1 p, z32, n, 0, f, z32⟩
theorem signed_sign (x : Tx) : (signed x).sign = sgn (signed x) := (sgn_signed x).symm
theorem oneF_sign (p : UInt8) (n f : Nat) : (oneF p n f).sign = sgn (oneF p n f) := signed_sign _
def x1 : Tx := oneF 1 0 5
def x2 : Tx := oneF 1 1 5
def cs1 : List LC := [(kF 1, [x1])]
def cs2 : List LC := [(kF 1, [x1, x2])]
theorem may_nil : MayC [] := ⟨fun _ h => (by cases h), fun _ h => (by cases h), List.Pairwise.nil⟩
theorem k2_nil : K2 [] := fun _ h => (by cases h)
theorem setC_one (o : List UInt8) (xs ys : List Tx) : setC [(o, xs)] o ys = ownC o ys := by
  have := setC_mid (P := []) (r := []) (c := (o, xs)) (List.pairwise_singleton _ _) ys
  simpa using this
theorem lineC_one (o : List UInt8) (xs : List Tx) : lineC [(o, xs)] o = xs := lineC_mem (List.pairwise_singleton _ _) (by simp)
theorem sub_x1 (cap : Int) (hc : 0 < cap) : submitC [] cap 0 x1 = (cs1, [], 0) := by
  unfold submitC
  rw [if_pos (show x1.sign = sgn x1 from oneF_sign 1 0 5), if_neg (by decide), if_neg (by decide), show fromT x1 = kF 1 from rfl, show lineC [] (kF 1) = [] from rfl, show atT [] x1.nonce = none from rfl]
  dsimp only
  rw [if_neg (by decide), if_pos (show (cntC [] : Int) < cap from hc)]
  rfl
theorem cs1_may : MayC cs1 ∧ K2 cs1 := by
  have h := submitC_kept (cap := 2) (nonce := 0) (x := x1) may_nil k2_nil
  rw [sub_x1 2 (by decide)] at h
  exact ⟨(h rfl).may, (h rfl).k2⟩
theorem sub_x2 (cap : Int) (hc : 1 < cap) : submitC cs1 cap 0 x2 = (cs2, [], 0) := by
  unfold submitC
  rw [if_pos (show x2.sign = sgn x2 from oneF_sign 1 1 5), if_neg (by decide), if_neg (by decide), show fromT x2 = kF 1 from rfl, show lineC cs1 (kF 1) = [x1] from lineC_one _ _, show atT [x1] x2.nonce = none from rfl]
  dsimp only
  rw [if_neg (by decide), if_pos (show (cntC cs1 : Int) < cap from hc), show setC cs1 (kF 1) (withT [x1] x2) = ownC (kF 1) (withT [x1] x2) from setC_one _ _ _]
  rfl
theorem cs2_may : MayC cs2 ∧ K2 cs2 := by
  have h := submitC_kept (cap := 2) (nonce := 0) (x := x2) cs1_may.1 cs1_may.2
  rw [sub_x2 2 (by decide)] at h
  exact ⟨(h rfl).may, (h rfl).k2⟩
theorem submitS_of {cs : List LC} (h : MayC cs) (cap : Int) (nonce : Nat) (x : Tx) : submitS cs cap nonce x = submitC cs cap nonce x := if_pos h
end Go.Proofs.YtcpndfffdbogbaaGreatDoor
namespace Go.Proofs.YtcpndfffdbogbaaGreatDoor
open Go Go.RowKit
set_option linter.unusedVariables false
set_option linter.unusedSimpArgs false
set_option linter.unusedSectionVars false
open Classical

end Go.Proofs.YtcpndfffdbogbaaGreatDoor
namespace Go.Proofs.YtcpndfffdbogbaaGreatDoor
open Go Go.RowKit
set_option linter.unusedVariables false
set_option linter.unusedSimpArgs false
set_option linter.unusedSectionVars false
open Classical

section
variable {P : Program} {w0 : World} {n : Nat} {ds : List Deferred} {fr : Fr} {L : List Asn} {dst : Option Nat} {ty : TypeId} {pos : String} {after : Array Edge} {gd : Option (Nat × Bool)}
/-- Transactions of which it is known whether they are the same. -/
theorem vq_eqTxD {t yt : TypeId} {a b : Operand} {x y : Tx} (hx : evA fr a = some (.agg x.cells.toArray)) (hy : evA fr b = some (.agg y.cells.toArray)) [he : EqI P t txShape] (hox : x.ok) (hoy : y.ok) (h : ¬ x = y) : VQ P w0 n ⟨dst, .binOp .eql t a b yt, ty, pos, after, gd⟩ (.bool false) ds fr L := by
  have := vq_eqTx (P := P) (w0 := w0) (n := n) (ds := ds) (fr := fr) (L := L) (dst := dst) (ty := ty) (pos := pos) (after := after) (gd := gd) (t := t) (yt := yt) hx hy hox hoy
  rwa [decide_eq_false h] at this
theorem vq_eqTxE {t yt : TypeId} {a b : Operand} {x y : Tx} (hx : evA fr a = some (.agg x.cells.toArray)) (hy : evA fr b = some (.agg y.cells.toArray)) [he : EqI P t txShape] (hox : x.ok) (hoy : y.ok) (h : x = y) : VQ P w0 n ⟨dst, .binOp .eql t a b yt, ty, pos, after, gd⟩ (.bool true) ds fr L := by
  have := vq_eqTx (P := P) (w0 := w0) (n := n) (ds := ds) (fr := fr) (L := L) (dst := dst) (ty := ty) (pos := pos) (after := after) (gd := gd) (t := t) (yt := yt) hx hy hox hoy
  rwa [decide_eq_true h] at this
theorem vq_neTxD {t yt : TypeId} {a b : Operand} {x y : Tx} (hx : evA fr a = some (.agg x.cells.toArray)) (hy : evA fr b = some (.agg y.cells.toArray)) [he : EqI P t txShape] (hox : x.ok) (hoy : y.ok) (h : ¬ x = y) : VQ P w0 n ⟨dst, .binOp .neq t a b yt, ty, pos, after, gd⟩ (.bool true) ds fr L := by
  have := vq_neTx (P := P) (w0 := w0) (n := n) (ds := ds) (fr := fr) (L := L) (dst := dst) (ty := ty) (pos := pos) (after := after) (gd := gd) (t := t) (yt := yt) hx hy hox hoy
  rwa [decide_eq_false h] at this
end
theorem submitS_kept {cs : List LC} (h2 : K2 cs) {cap : Int} {nonce : Nat} {x : Tx} (he : (submitS cs cap nonce x).2.2 = 0) : MayC cs ∧ Kept cs cap x (submitS cs cap nonce x).1 (submitS cs cap nonce x).2.1 := by
  unfold submitS at *
  split
  · rename_i h
    rw [if_pos h] at he
    exact ⟨h, submitC_kept h h2 he⟩
  · rename_i h
    rw [if_neg h] at he
    exact absurd he (by decide)
theorem LsOk.of0 {ls : List Ln} (hw : ∀ p ∈ ls, p.own.length = 32 ∧ (∀ x ∈ p.xs, x.ok) ∧ p.xs.length ≤ 9223372036854775807) (h6 : ls.length ≤ 6 ∧ ∀ x ∈ ls, x.xs.length ≤ 20) : LsOk ls :=
  ⟨fun l hl => ⟨(hw l hl).1, ⟨(hw l hl).2.1, by have := h6.2 l hl; omega⟩⟩, by omega⟩
end Go.Proofs.YtcpndfffdbogbaaGreatDoor
namespace Go.Proofs.YtcpndfffdbogbaaGreatDoor
open Go Go.RowKit
set_option linter.unusedVariables false
set_option linter.unusedSimpArgs false
set_option linter.unusedSectionVars false
open Classical

theorem may0 : MayP [] 0 := by
  refine ⟨by simp, by simp, by simp, fun i x h => by simp at h, ?_⟩
  rw [show Int.toNat 0 = 0 from rfl, rightP]
  decide
theorem rdNs0 (w0 : World) (L : List Asn) : RdNs w0 L [] := ⟨fun p hp => absurd hp (by simp)⟩
theorem nsOk0 : NsOk [] := ⟨fun p hp => absurd hp (by simp), fun p hp => absurd hp (by simp), by simp⟩
theorem st0 : StP [] 0 := ⟨may0, fun x hx => by simp [forP] at hx⟩
theorem acc0 (k : List UInt8) : nonceA [] 0 k = 0 := by
  unfold nonceA accG
  rw [if_pos st0]
  simp [getA, inP, forP, has]
theorem sub_zero : submitS cs2 9 0 zTx = ([], [], 110) := by
  rw [submitS_of cs2_may.1]
  unfold submitC
  rw [if_neg zTx_unsigned]
end Go.Proofs.YtcpndfffdbogbaaGreatDoor
