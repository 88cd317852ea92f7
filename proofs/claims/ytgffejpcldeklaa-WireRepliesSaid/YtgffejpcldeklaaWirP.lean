/-
  Requests and their bytes: what they are, and that both ways of reading are one.
-/
import Derived.Test.YtgffejpcldeklaaTxI
import Derived.Test.YtgffejpcldeklaaTxH
import Derived.Test.YtgffejpcldeklaaGW
import Derived.Test.YtgffejpcldeklaaGF
set_option linter.unusedVariables false
set_option linter.unusedSimpArgs false
set_option linter.unusedSectionVars false

namespace Go.Proofs.Ytgffejpcldeklaa
open Go Go.RowKit
open Classical

/-- A request's content. -/
structure Ask where
  kind : UInt8
  tx : Tx
  key : List UInt8
  height : Int
  sub : Int
def Ask.cells (a : Ask) : List Value := .int .u8 (a.kind.toNat : Nat) :: (a.tx.cells ++ (bvs a.key ++ [.int .i64 a.height, .int .i64 a.sub]))
structure Ask.ok (a : Ask) : Prop where
  tx : a.tx.ok
  key : a.key.length = 32
  h1 : -9223372036854775808 ≤ a.height
  h2 : a.height < 9223372036854775808
  s1 : -9223372036854775808 ≤ a.sub
  s2 : a.sub < 9223372036854775808
theorem Ask.len {a : Ask} (h : a.ok) : a.cells.length = 134 := by simp [Ask.cells, Tx.len h.tx, h.key]
section
variable {a : Ask} (h : a.ok)
include h
theorem Ask.f0 : a.cells[0 + 0]? = some (.int .u8 (a.kind.toNat : Nat)) := rfl
theorem Ask.f1 : (a.cells.drop (0 + 1)).take 99 = a.tx.cells := by
  simp only [Ask.cells, Nat.zero_add, List.drop_succ_cons, List.drop_zero]
  rw [List.take_left' (Tx.len h.tx)]
theorem Ask.f2 : (a.cells.drop (0 + 100)).take 32 = bvs a.key := by
  simp only [Ask.cells, Nat.zero_add, List.drop_succ_cons]
  rw [List.drop_left' (Tx.len h.tx), List.take_left' (by simp [h.key])]
theorem Ask.f3 : a.cells[0 + 132]? = some (.int .i64 a.height) := by
  simp [Ask.cells, List.getElem?_append, Tx.len h.tx, h.key]
theorem Ask.f4 : a.cells[0 + 133]? = some (.int .i64 a.sub) := by
  simp [Ask.cells, List.getElem?_append, Tx.len h.tx, h.key]
theorem Ask.set0 (k : UInt8) : splice a.cells (0 + 0) [.int .u8 (k.toNat : Nat)] = ({ a with kind := k } : Ask).cells := by
  have e := splice_mid (α := Value) [] [.int .u8 (a.kind.toNat : Nat)] (a.tx.cells ++ (bvs a.key ++ [.int .i64 a.height, .int .i64 a.sub])) [.int .u8 (k.toNat : Nat)] (0 + 0) rfl rfl
  exact e
theorem Ask.set1 (x : Tx) (hx : x.ok) : splice a.cells (0 + 1) x.cells = ({ a with tx := x } : Ask).cells := by
  have e := splice_mid (α := Value) [.int .u8 (a.kind.toNat : Nat)] a.tx.cells (bvs a.key ++ [.int .i64 a.height, .int .i64 a.sub]) x.cells (0 + 1) rfl (by rw [Tx.len h.tx, Tx.len hx])
  exact e
theorem Ask.set2 (d : List UInt8) (hd : d.length = 32) : splice a.cells (0 + 100) (bvs d) = ({ a with key := d } : Ask).cells := by
  have e := splice_mid (α := Value) (.int .u8 (a.kind.toNat : Nat) :: a.tx.cells) (bvs a.key) [.int .i64 a.height, .int .i64 a.sub] (bvs d) (0 + 100) (by simp [Tx.len h.tx]) (by simp [h.key, hd])
  simpa [Ask.cells] using e
end
abbrev askShape : Shape := List.replicate 32 (some .u8) ++ (List.replicate 32 (some .u8) ++ (some .u8 :: (some .u64 :: (some .u64 :: (some .u64 :: (List.replicate 32 (some .u8) ++ (List.replicate 32 (some .u8) ++ (some .i64 :: [some .i64]))))))))
set_option maxRecDepth 100000 in
theorem askShape_eq : askShape = some .u8 :: (txShape ++ (List.replicate 32 (some .u8) ++ [some .i64, some .i64])) := by decide
theorem Ask.fits {a : Ask} (h : a.ok) : Fits askShape a.cells := by
  have c := fits_bvs a.key
  rw [h.key] at c
  rw [askShape_eq]
  exact ⟨⟨_, rfl⟩, (Tx.fits h.tx).append (c.append ⟨⟨_, rfl⟩, ⟨_, rfl⟩, trivial⟩)⟩
theorem Ask.inj {a b : Ask} (h : a.ok) (k : b.ok) : a.cells = b.cells ↔ a = b := by
  refine ⟨fun e => ?_, fun e => by rw [e]⟩
  unfold Ask.cells at e
  obtain ⟨e0, e⟩ := List.cons.inj e
  obtain ⟨e1, e⟩ := List.append_inj e (by rw [Tx.len h.tx, Tx.len k.tx])
  obtain ⟨e2, e⟩ := List.append_inj e (by simp [h.key, k.key])
  simp only [List.cons.injEq, Value.int.injEq, true_and, and_true] at e
  obtain ⟨e3, e4⟩ := e
  have e1 := (Tx.inj h.tx k.tx).1 e1
  have e2 := bvs_inj e2
  simp only [Value.int.injEq, true_and] at e0
  have e0 : a.kind = b.kind := UInt8.toNat_inj.1 (by omega)
  obtain ⟨k1, x1, d1, h1, s1⟩ := a
  obtain ⟨k2, x2, d2, h2, s2⟩ := b
  simp only at e0 e1 e2 e3 e4
  simp only [Ask.mk.injEq]
  exact ⟨e0, e1, e2, e3, e4⟩
section
variable {P : Program} {w0 : World} {n : Nat} {ds : List Deferred} {fr : Fr} {L : List Asn} {dst : Option Nat} {ty : TypeId} {pos : String} {after : Array Edge} {gd : Option (Nat × Bool)}
end
def d32 : List UInt8 := List.replicate 32 0
def zA : Ask := ⟨0, zeroTx, d32, 0, 0⟩
/-! ### Which may be, and their bytes -/
/-! ### Reading, by the document -/
def dig22 (b : List UInt8) (at' : Nat) : List UInt8 := (b.drop at').take 32 ++ List.replicate (32 - ((b.drop at').take 32).length) 0
theorem dig22_len (b : List UInt8) (at' : Nat) : (dig22 b at').length = 32 := by
  unfold dig22
  simp only [List.length_append, List.length_replicate, List.length_take, List.length_drop]
  omega
def small22 (b : List UInt8) (at' size : Nat) : Int := if b.length < at' + size then -1 else if 2147483648 ≤ numOf ((b.drop at').take size) then -1 else numOf ((b.drop at').take size)
/-! ### Reading, by parts -/
inductive Pt
  | h
  | s
  | d
  | t
def takeX (n : Nat) (r : List UInt8) : List UInt8 := if r.length < n then List.replicate n 0 else r.take n
def dropX (n : Nat) (r : List UInt8) : List UInt8 := if r.length < n then [] else r.drop n
theorem takeX_len (n : Nat) (r : List UInt8) : (takeX n r).length = n := by
  unfold takeX
  split
  · simp
  · simp; omega
structure RS where
  r : List UInt8
  bad : Bool
  a : Ask
/-- A transaction is read only of what is well so far. -/
def rdT (s : RS) : Ask := if (s.bad || decide (s.r.length < 120)) = true then s.a else { s.a with tx := (txRead (takeX 120 s.r)).1 }
def Pt.step (p : Pt) (s : RS) : RS := match p with
  | .h => ⟨dropX 8 s.r, s.bad || decide (s.r.length < 8) || decide (1073741824 < numOf (takeX 8 s.r)), { s.a with height := (min (numOf (takeX 8 s.r)) 1073741824 : Nat) }⟩
  | .s => ⟨dropX 4 s.r, s.bad || decide (s.r.length < 4) || decide (1073741823 < numOf (takeX 4 s.r)), { s.a with sub := (min (numOf (takeX 4 s.r)) 1073741823 : Nat) }⟩
  | .d => ⟨dropX 32 s.r, s.bad || decide (s.r.length < 32), { s.a with key := takeX 32 s.r }⟩
  | .t => ⟨dropX 120 s.r, s.bad || decide (s.r.length < 120) || !decide ((txRead (takeX 120 s.r)).2 = 0), rdT s⟩
theorem Pt.step_ok (p : Pt) {s : RS} (h : s.a.ok) : (p.step s).a.ok := by
  cases p
  · exact ⟨h.tx, h.key, by show (-9223372036854775808 : Int) ≤ (min (numOf (takeX 8 s.r)) 1073741824 : Nat); omega, by show ((min (numOf (takeX 8 s.r)) 1073741824 : Nat) : Int) < 9223372036854775808; omega, h.s1, h.s2⟩
  · exact ⟨h.tx, h.key, h.h1, h.h2, by show (-9223372036854775808 : Int) ≤ (min (numOf (takeX 4 s.r)) 1073741823 : Nat); omega, by show ((min (numOf (takeX 4 s.r)) 1073741823 : Nat) : Int) < 9223372036854775808; omega⟩
  · exact ⟨h.tx, takeX_len _ _, h.h1, h.h2, h.s1, h.s2⟩
  · show (rdT s).ok
    unfold rdT
    split
    · exact h
    · exact ⟨txRead_ok _, h.key, h.h1, h.h2, h.s1, h.s2⟩
end Go.Proofs.Ytgffejpcldeklaa
