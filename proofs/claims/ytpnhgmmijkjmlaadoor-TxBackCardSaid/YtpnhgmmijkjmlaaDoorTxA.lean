/-
  Transactions: their cells; what is signed.
-/
import Derived.Test.YtpnhgmmijkjmlaaDoorTagK
import Derived.Test.YtpnhgmmijkjmlaaDoorVEqB
import Derived.Test.YtpnhgmmijkjmlaaDoorOpenB
namespace Go.Proofs.YtpnhgmmijkjmlaaDoor
open Go Go.RowKit
set_option linter.unusedVariables false
set_option linter.unusedSimpArgs false

structure Tx where
  pub : List UInt8
  to : List UInt8
  nonce : Nat
  amount : Nat
  fee : Nat
  sign : List UInt8
deriving DecidableEq
def Tx.cells (x : Tx) : List Value := bvs x.pub ++ (bvs x.to ++ (.int .u64 (x.nonce : Int) :: (.int .u64 (x.amount : Int) :: (.int .u64 (x.fee : Int) :: bvs x.sign))))
structure Tx.ok (x : Tx) : Prop where
  pub : x.pub.length = 32
  to : x.to.length = 32
  nonce : x.nonce < 18446744073709551616
  amount : x.amount < 18446744073709551616
  fee : x.fee < 18446744073709551616
  sign : x.sign.length = 32
instance oc_tx (x : Tx) : OC x.cells := (inferInstance : OC (bvs x.pub ++ (bvs x.to ++ (.int .u64 (x.nonce : Int) :: (.int .u64 (x.amount : Int) :: (.int .u64 (x.fee : Int) :: bvs x.sign))))))
theorem Tx.len {x : Tx} (h : x.ok) : x.cells.length = 99 := by simp [Tx.cells, h.pub, h.to, h.sign]
theorem Tx.f0 {x : Tx} (h : x.ok) : (x.cells.drop (0 + 0)).take 32 = bvs x.pub := by
  simp only [Tx.cells, Nat.add_zero, List.drop_zero]
  rw [List.take_left' (by simp [h.pub])]
theorem Tx.f1 {x : Tx} (h : x.ok) : (x.cells.drop (0 + 32)).take 32 = bvs x.to := by
  simp only [Tx.cells, Nat.zero_add]
  rw [List.drop_left' (by simp [h.pub]), List.take_left' (by simp [h.to])]
theorem Tx.f2 {x : Tx} (h : x.ok) : x.cells[0 + 64]? = some (.int .u64 (x.nonce : Int)) := by
  simp [Tx.cells, List.getElem?_append, h.pub, h.to]
theorem Tx.f3 {x : Tx} (h : x.ok) : x.cells[0 + 65]? = some (.int .u64 (x.amount : Int)) := by
  simp [Tx.cells, List.getElem?_append, h.pub, h.to]
theorem Tx.f4 {x : Tx} (h : x.ok) : x.cells[0 + 66]? = some (.int .u64 (x.fee : Int)) := by
  simp [Tx.cells, List.getElem?_append, h.pub, h.to]
theorem Tx.cut {x : Tx} : x.cells = (bvs x.pub ++ (bvs x.to ++ [.int .u64 (x.nonce : Int), .int .u64 (x.amount : Int), .int .u64 (x.fee : Int)])) ++ bvs x.sign := by simp [Tx.cells]
theorem Tx.f5 {x : Tx} (h : x.ok) : (x.cells.drop (0 + 67)).take 32 = bvs x.sign := by
  rw [Tx.cut, List.drop_left' (by simp [h.pub, h.to]), List.take_of_length_le (by simp [h.sign])]
theorem Tx.set5 {x : Tx} (h : x.ok) (s : List UInt8) (hs : s.length = 32) : splice x.cells (0 + 67) (bvs s) = ({ x with sign := s } : Tx).cells := by
  have e := splice_mid (α := Value) (bvs x.pub ++ (bvs x.to ++ [.int .u64 (x.nonce : Int), .int .u64 (x.amount : Int), .int .u64 (x.fee : Int)])) (bvs x.sign) [] (bvs s) (0 + 67) (by simp [h.pub, h.to]) (by simp [h.sign, hs])
  rw [List.append_nil] at e
  rw [Tx.cut, e]
  simp [Tx.cells]
theorem Tx.withSign {x : Tx} (h : x.ok) {s : List UInt8} (hs : s.length = 32) : ({ x with sign := s } : Tx).ok := ⟨h.pub, h.to, h.nonce, h.amount, h.fee, hs⟩
abbrev txShape : Shape := List.replicate 32 (some .u8) ++ (List.replicate 32 (some .u8) ++ (some .u64 :: (some .u64 :: (some .u64 :: List.replicate 32 (some .u8)))))
theorem Tx.fits {x : Tx} (h : x.ok) : Fits txShape x.cells := by
  have a := fits_bvs x.pub
  have b := fits_bvs x.to
  have c := fits_bvs x.sign
  rw [h.pub] at a
  rw [h.to] at b
  rw [h.sign] at c
  exact a.append (b.append ⟨⟨_, rfl⟩, ⟨_, rfl⟩, ⟨_, rfl⟩, c⟩)
theorem Tx.inj {x y : Tx} (h : x.ok) (k : y.ok) : x.cells = y.cells ↔ x = y := by
  refine ⟨fun e => ?_, fun e => by rw [e]⟩
  unfold Tx.cells at e
  obtain ⟨e1, e⟩ := List.append_inj e (by simp [h.pub, k.pub])
  obtain ⟨e2, e⟩ := List.append_inj e (by simp [h.to, k.to])
  simp only [List.cons.injEq, Value.int.injEq, true_and] at e
  obtain ⟨e3, e4, e5, e6⟩ := e
  obtain ⟨p, t, n, a, f, s⟩ := x
  obtain ⟨p', t', n', a', f', s'⟩ := y
  simp only at e1 e2 e3 e4 e5 e6
  have := bvs_inj e1
  have := bvs_inj e2
  have := bvs_inj e6
  simp only [Tx.mk.injEq]
  refine ⟨by assumption, by assumption, by omega, by omega, by omega, by assumption⟩
theorem u64_wf {n : Int} (h : (Lit.int .u64 n).wf = true) : 0 ≤ n ∧ n < 18446744073709551616 := by
  simp [Lit.wf, IntKind.min, IntKind.max, IntKind.bits, IntKind.signed] at h
  omega
theorem tx_of_fits {cs : List Value} (h : FitsW txShape cs) : ∃ x : Tx, x.ok ∧ cs = x.cells := by
  obtain ⟨us, ws, rfl, h1, h2⟩ := h.split
  obtain ⟨p, rfl, hp⟩ := h1.bytes
  obtain ⟨us2, ws2, rfl, h3, h4⟩ := h2.split
  obtain ⟨t, rfl, ht⟩ := h3.bytes
  obtain ⟨n, us3, rfl, hn, h5⟩ := h4.cons
  obtain ⟨a, us4, rfl, ha, h6⟩ := h5.cons
  obtain ⟨f, us5, rfl, hf, h7⟩ := h6.cons
  obtain ⟨s, rfl, hs⟩ := h7.bytes
  have := u64_wf hn
  have := u64_wf ha
  have := u64_wf hf
  refine ⟨⟨p, t, n.toNat, a.toNat, f.toNat, s⟩, ⟨hp, ht, by dsimp only; omega, by dsimp only; omega, by dsimp only; omega, hs⟩, ?_⟩
  unfold Tx.cells
  dsimp only
  rw [Int.toNat_of_nonneg (by omega), Int.toNat_of_nonneg (by omega), Int.toNat_of_nonneg (by omega)]

section
variable {P : Program} {w0 : World} {n : Nat} {ds : List Deferred} {fr : Fr} {L : List Asn} {dst : Option Nat} {ty : TypeId} {pos : String} {after : Array Edge} {gd : Option (Nat × Bool)}
theorem vq_eqTx {t yt : TypeId} {a b : Operand} {x y : Tx} (hx : evA fr a = some (.agg x.cells.toArray)) (hy : evA fr b = some (.agg y.cells.toArray)) [he : EqI P t txShape] (hox : x.ok) (hoy : y.ok) : VQ P w0 n ⟨dst, .binOp .eql t a b yt, ty, pos, after, gd⟩ (.bool (decide (x = y))) ds fr L :=
  vq_val (fun u w hk _ => run_eqAgg t yt a b rfl he x.cells y.cells (hk.ev hx) (hk.ev hy) (Tx.fits hox) (Tx.fits hoy) _ (Tx.inj hox hoy))
end

section
variable {P : Program} {w0 : World} {n : Nat} {ds : List Deferred} {fr : Fr} {L : List Asn} {dst : Option Nat} {ty : TypeId} {pos : String} {after : Array Edge} {gd : Option (Nat × Bool)}
theorem vq_eqTxS {t yt : TypeId} {a b : Operand} {x : Tx} (hx : evA fr a = some (.agg x.cells.toArray)) (hy : evA fr b = some (.agg x.cells.toArray)) [he : EqI P t txShape] (hox : x.ok) : VQ P w0 n ⟨dst, .binOp .eql t a b yt, ty, pos, after, gd⟩ (.bool true) ds fr L := by
  have h := vq_eqTx (P := P) (w0 := w0) (n := n) (ds := ds) (L := L) (dst := dst) (ty := ty) (pos := pos) (after := after) (gd := gd) (t := t) (yt := yt) hx hy hox hox
  rwa [decide_eq_true rfl] at h
theorem vq_eqS {t yt : TypeId} {x y : Operand} {k : IntKind} {m : Int} (hx : evA fr x = some (.int k m)) (hy : evA fr y = some (.int k m)) : VQ P w0 n ⟨dst, .binOp .eql t x y yt, ty, pos, after, gd⟩ (.bool true) ds fr L := by
  have h := vq_eq (P := P) (w0 := w0) (n := n) (ds := ds) (L := L) (dst := dst) (ty := ty) (pos := pos) (after := after) (gd := gd) (t := t) (yt := yt) hx hy
  rwa [decide_eq_true rfl] at h
end

/-- What is signed; the bytes. -/
def txBody (x : Tx) : List UInt8 := x.pub ++ (x.to ++ (digs x.nonce 8 ++ (digs x.amount 8 ++ digs x.fee 8)))
def txBytes (x : Tx) : List UInt8 := txBody x ++ x.sign
theorem txBody_length {x : Tx} (h : x.ok) : (txBody x).length = 88 := by simp [txBody, h.pub, h.to, digs_length]
theorem txBytes_length {x : Tx} (h : x.ok) : (txBytes x).length = 120 := by simp [txBytes, txBody_length h, h.sign]
theorem txBody_inj {x y : Tx} (h : x.ok) (k : y.ok) (e : txBody x = txBody y) : ({ y with sign := x.sign } : Tx) = x := by
  unfold txBody at e
  obtain ⟨e1, e⟩ := List.append_inj e (by rw [h.pub, k.pub])
  obtain ⟨e2, e⟩ := List.append_inj e (by rw [h.to, k.to])
  obtain ⟨e3, e⟩ := List.append_inj e (by simp [digs_length])
  obtain ⟨e4, e5⟩ := List.append_inj e (by simp [digs_length])
  have inj : ∀ n m, n < 18446744073709551616 → m < 18446744073709551616 → digs n 8 = digs m 8 → n = m := by
    intro n m hn hm he
    have h1 := numOf_digs 8 n (by decide) (by simpa using hn)
    have h2 := numOf_digs 8 m (by decide) (by simpa using hm)
    rw [← h1, ← h2, he]
  obtain ⟨p, t, n, a, f, s⟩ := x
  obtain ⟨p', t', n', a', f', s'⟩ := y
  simp only at e1 e2 e3 e4 e5
  have := inj _ _ h.nonce k.nonce e3
  have := inj _ _ h.amount k.amount e4
  have := inj _ _ h.fee k.fee e5
  simp only [Tx.mk.injEq, and_true]
  simp only at *
  refine ⟨e1.symm, e2.symm, by omega, by omega, by omega⟩
end Go.Proofs.YtpnhgmmijkjmlaaDoor
