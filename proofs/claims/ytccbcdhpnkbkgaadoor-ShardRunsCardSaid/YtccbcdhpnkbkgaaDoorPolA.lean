/-
  Pools: shards, one behind the other; a key's shard; empty pools.
-/
import Derived.Test.YtccbcdhpnkbkgaaDoorGS
set_option linter.unusedVariables false
set_option linter.unusedSimpArgs false
namespace Go.Proofs.YtccbcdhpnkbkgaaDoor
open Go Go.RowKit
set_option linter.unusedVariables false
set_option linter.unusedSimpArgs false
open Classical

/-- A shard's content. -/
structure Sh where
  a : Option Addr
  c : Nat
  ls : List Ln
def Sh.cells (s : Sh) : List Value := [.slice s.a s.ls.length s.c]
abbrev shc (ss : List Sh) : List Value := flat Sh.cells ss
structure SsOk (ss : List Sh) : Prop where
  ok : ∀ s ∈ ss, LsOk s.ls
  len : ss.length ≤ 1000000
abbrev shl (ss : List Sh) : List (List (List UInt8 × List Tx)) := ss.map fun s => lls s.ls
theorem shs_wide (ss : List Sh) : Wide Sh.cells 1 ss := fun _ _ => rfl
theorem shs_len (ss : List Sh) : (shc ss).length = ss.length := by rw [show shc ss = flat Sh.cells ss from rfl, (shs_wide ss).len, Nat.mul_one]
instance oc_sh (s : Sh) : OC s.cells := (inferInstance : OC [.slice s.a s.ls.length s.c])
section
variable {ss : List Sh}
theorem SsOk.at (h : SsOk ss) (k : Nat) (hk : k < ss.length) : LsOk (ss[k]).ls := h.ok _ (List.getElem_mem hk)
theorem SsOk.e (h : SsOk ss) (k : Nat) (hk : k < ss.length) : ((shc ss).drop (k * 1)).take 1 = [.slice ss[k].a ss[k].ls.length ss[k].c] := (shs_wide ss).at k hk
theorem SsOk.pos (h : SsOk ss) (k : Nat) (hk : k < ss.length) : 0 < (shc ss).length := by rw [shs_len]; omega
end
theorem SsOk.sub {ss ts : List Sh} (h : SsOk ss) (hs : ∀ p ∈ ts, p ∈ ss) (hl : ts.length ≤ ss.length) : SsOk ts := ⟨fun p hp => h.ok p (hs p hp), by have := h.len; omega⟩
/-- Their lines can be read. -/
class RdSs (w0 : World) (L : List Asn) (ss : List Sh) : Prop where
  out : ∀ s ∈ ss, RdC w0 L s.a (lnc s.ls) ∧ RdLs w0 L s.ls
instance (priority := 50) rdSs_cons (w0 : World) (A : Asn) (L : List Asn) (ss : List Sh) [h : RdSs w0 L ss] : RdSs w0 (A :: L) ss := ⟨fun p hp => by
    obtain ⟨h1, h2⟩ := h.out p hp
    exact ⟨inferInstance, inferInstance⟩⟩
theorem RdSs.at {w0 : World} {L : List Asn} {ss : List Sh} (h : RdSs w0 L ss) (k : Nat) (hk : k < ss.length) : RdC w0 L (ss[k]).a (lnc (ss[k]).ls) := (h.out _ (List.getElem_mem hk)).1
def sh2 (ss : List Sh) : List Asn := ss.flatMap fun s => [ownLs s.a s.c s.ls, tsA s.ls]
/-- All lines and transactions of the call's own. -/
def shA (ss : List Sh) : Asn := bundle (sh2 ss)
class HasSh (L : List Asn) (ss : List Sh) : Prop where
  out : ∃ i : Nat, L[i]? = some (shA ss)
instance hasSh_zero (L : List Asn) (ss : List Sh) : HasSh (shA ss :: L) ss := ⟨0, rfl⟩
instance (priority := low) hasSh_succ (P : Asn) (L : List Asn) (ss : List Sh) [h : HasSh L ss] : HasSh (P :: L) ss := ⟨by obtain ⟨i, hi⟩ := h.out; exact ⟨i + 1, by simpa using hi⟩⟩
instance rdSs_own (w0 : World) (L : List Asn) (ss : List Sh) [h : HasSh L ss] : RdSs w0 L ss := ⟨fun s hs => by
  obtain ⟨i, hi⟩ := h.out
  have m1 : ownLs s.a s.c s.ls ∈ sh2 ss := List.mem_flatMap.2 ⟨s, hs, by simp⟩
  have m2 : tsA s.ls ∈ sh2 ss := List.mem_flatMap.2 ⟨s, hs, by simp⟩
  refine ⟨⟨fun w hw => hw.know i hi (fun F hF => ?_)⟩, ⟨fun l hl => ⟨fun w hw => hw.know i hi (fun F hF => ?_)⟩⟩⟩
  · obtain ⟨G, hG⟩ := SLs.mem (P := ownLs s.a s.c s.ls) hF m1
    exact own.rc hG
  · obtain ⟨G, hG⟩ := SLs.mem (P := tsA s.ls) hF m2
    obtain ⟨G2, hG2⟩ := SLs.mem (P := ownTs l.a l.c l.xs) hG (List.mem_map.2 ⟨l, hl, rfl⟩)
    exact own.rc hG2⟩
abbrev ownSs (a : Option Addr) (cap : Nat) (ss : List Sh) : Asn := own 24 1 a ss.length cap (shc ss)
/-- What is told of a pool: its memory is new. -/
def RPo (L : List Asn) (ss : List Sh) (v : Value) (L' : List Asn) : Prop := ∃ a c ts, v = .slice a ts.length c ∧ shl ts = shl ss ∧ L' = ownSs a c ts :: shA ts :: L
def shE : Sh := ⟨none, 0, []⟩
/-- A key's shard, of so many. -/
def atP (k : List UInt8) (m : Int) : Int := ((k.getD 31 0).toNat : Int).tmod m
/-- What New tells. -/
def RNew (L : List Asn) (m : Int) (v : Value) (L' : List Asn) : Prop := ∃ a c ss, v = .tuple #[.slice a ss.length c, .int .i64 (if 1 ≤ m ∧ m ≤ 8 then 0 else 2)] ∧ ss = (if 1 ≤ m ∧ m ≤ 8 then List.replicate m.toNat shE else []) ∧ L' = ownSs a c ss :: shA ss :: L
end Go.Proofs.YtccbcdhpnkbkgaaDoor
