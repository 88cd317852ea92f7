/-
  Parts of any kind, of any thing that is held: they are put behind each other.
-/
import Derived.Test.YtgffejpcldeklaaWirM
import Derived.Test.YtgffejpcldeklaaWirI
set_option linter.unusedVariables false
set_option linter.unusedSimpArgs false
set_option linter.unusedSectionVars false

namespace Go.Proofs.Ytgffejpcldeklaa
open Go Go.RowKit
open Classical

/-- A part's value, and the bytes that stand for it. -/
inductive Puts (H : List Asn) : Value × List UInt8 → Prop
  | num (g off size most n i : Nat) (T : TypeId) (cs : List Value) (h0 : 0 < size) (h8 : size ≤ 8) (hm : most < 9000000000000000000) (hn : n < 9223372036854775808) (hb : HasBlk H g i T cs) (hv : cs[off]? = some (.int .i64 n)) (hf : n < 256 ^ size) : Puts H (.iface 69 (.agg #[.pointer (some ⟨g, off, none⟩), .int .i64 size, .int .i64 most]), digs n size)
  | big (g off most n i : Nat) (T : TypeId) (cs : List Value) (hm : most < 9000000000000000000) (hn : n < 9223372036854775808) (hb : HasBlk H g i T cs) (hv : cs[off]? = some (.int .i64 n)) (hf : 4294967296 ≤ n) : Puts H (.iface 69 (.agg #[.pointer (some ⟨g, off, none⟩), .int .i64 4, .int .i64 most]), [])
  | dig (g off i : Nat) (T : TypeId) (cs : List Value) (d : List UInt8) (hd : d.length = 32) (hb : HasBlk H g i T cs) (hv : (cs.drop off).take 32 = bvs d) : Puts H (.iface 87 (.agg #[.pointer (some ⟨g, off, none⟩)]), d)
  | flg (g off i : Nat) (T : TypeId) (cs : List Value) (b : Bool) (hb : HasBlk H g i T cs) (hv : cs[off]? = some (.bool b)) : Puts H (.iface 90 (.agg #[.pointer (some ⟨g, off, none⟩)]), [if b then 1 else 0])
  | byt (fto fread : FuncId) (c : Value) (size : Nat) (B : List UInt8) (hB : B.length ≤ 1000) (hs : size ≤ 1000) (hf : FnB Try.prog fto) (hc : ∀ (w0 : World) (L : List Asn), VC Try.prog w0 fto [c] (H ++ L) fun v L' => ∃ a' c', v = .slice a' B.length c' ∧ B.length ≤ c' ∧ L' = ownB a' c' B :: (H ++ L)) : Puts H (.iface 94 (.agg #[.func (.func fto) #[] #[c], .func (.func fread) #[] #[c], .int .i64 size]), B)
theorem Puts.len {H : List Asn} {q : Value × List UInt8} (h : Puts H q) : q.2.length ≤ 1000 := by
  cases h with
  | num => show (digs _ _).length ≤ 1000; rw [digs_length]; omega
  | big => simp
  | dig g off i T cs d hd => show d.length ≤ 1000; omega
  | flg => simp
  | byt => assumption
end Go.Proofs.Ytgffejpcldeklaa
