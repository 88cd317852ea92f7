/-
  Roots of maps. Roots of maps: the document's walk; the statement's law.
-/
import Derived.Test.YtccbcdhpnkbkgaaDoorGI
import Derived.Test.YtccbcdhpnkbkgaaDoorGF
set_option linter.unusedVariables false
set_option linter.unusedSimpArgs false
namespace Go.Proofs.YtccbcdhpnkbkgaaDoor
open Go Go.RowKit
set_option linter.unusedVariables false
set_option linter.unusedSimpArgs false
open Classical

/-- Digests of nothing, of a pair, of two. -/
def sha0 : List UInt8 := sha [0]
def leaf1 (k v : List UInt8) : List UInt8 := sha (tagB 1 [k, v])
def fork2 (a b : List UInt8) : List UInt8 := sha (tagB 2 [a, b])
/-- A bit of keys; the root of a map's pairs that share so many bits. -/
noncomputable def bit0 (l : List KV) (d : Nat) : List KV := l.filter fun x => decide (bitAt x.1 d = 0)
noncomputable def bit1 (l : List KV) (d : Nat) : List KV := l.filter fun x => decide (¬ bitAt x.1 d = 0)
noncomputable def rootF : Nat → List KV → Nat → List UInt8
  | 0, _, _ => sha0
  | f + 1, l, d => match l with
    | [] => sha0
    | [x] => leaf1 x.1 x.2
    | x :: y :: l => fork2 (rootF f (bit0 (x :: y :: l) d) (d + 1)) (rootF f (bit1 (x :: y :: l) d) (d + 1))
/-- Keys that share so many bits. -/
def Shr (l : List KV) (d : Nat) : Prop := ∀ x ∈ l, ∀ y ∈ l, ∀ m, m < d → bitAt x.1 m = bitAt y.1 m
theorem Shr.zero (l : List KV) : Shr l 0 := fun _ _ _ _ m hm => by omega
theorem Shr.sub {l m : List KV} {d : Nat} (h : Shr l d) (hs : ∀ x ∈ m, x ∈ l) : Shr m d := fun x hx y hy => h x (hs x hx) y (hs y hy)
theorem Shr.step {l : List KV} {d : Nat} (h : Shr l d) {b : Nat} (hb : ∀ x ∈ l, bitAt x.1 d = b) : Shr l (d + 1) := fun x hx y hy m hm => by
  rcases Nat.lt_or_ge m d with e | e
  · exact h x hx y hy m e
  · obtain rfl : m = d := by omega
    rw [hb x hx, hb y hy]
theorem Shr.bit0 {l : List KV} {d : Nat} (h : Shr l d) : Shr (bit0 l d) (d + 1) := (h.sub (m := Proofs.YtccbcdhpnkbkgaaDoor.bit0 l d) (fun x hx => (List.mem_filter.1 hx).1)).step (b := 0) (fun x hx => by simpa using (List.mem_filter.1 hx).2)
theorem Shr.bit1 {l : List KV} {d : Nat} (h : Shr l d) : Shr (bit1 l d) (d + 1) := (h.sub (m := Proofs.YtccbcdhpnkbkgaaDoor.bit1 l d) (fun x hx => (List.mem_filter.1 hx).1)).step (b := 1) (fun x hx => by
  have := (List.mem_filter.1 hx).2
  have h2 := bitAt_lt x.1 d
  have : ¬ bitAt x.1 d = 0 := by simpa using this
  omega)
set_option maxRecDepth 100000 in
theorem pbit_vc (w0 : World) (L : List Asn) (k : List UInt8) (hk : k.length = 32) (i : Nat) (hi : i < 256) :
    VC Tryd.prog w0 140 [.agg (bvs k).toArray, .int .i64 i] L fun v L' => v = .tuple #[.int .u8 (bitAt k i), .int .i64 0] ∧ L' = L := by
  have hg : (bvs k)[0 + i / 8]? = some (.int .u8 (k[i / 8]'(by omega)).toNat) := by rw [Nat.zero_add]; exact bvs_at k (i / 8) (by omega)
  have hb := (k[i / 8]'(by omega)).toNat_lt
  have hbit : bitAt k i = (k[i / 8]'(by omega)).toNat / 2 ^ (7 - i % 8) % 2 := by rw [bitAt, getD_get]
  rw [hbit]
  clear hbit
  generalize (k[i / 8]'(by omega)).toNat = c at *
  have hsh : ((c : Int)).fdiv (2 ^ min ((7 - i % 8 : Nat) : Int).toNat IntKind.u8.bits) = ((c / 2 ^ (7 - i % 8) : Nat) : Int) := by
    rw [show min ((7 - i % 8 : Nat) : Int).toNat IntKind.u8.bits = 7 - i % 8 by simp [IntKind.bits]; omega, Int.fdiv_eq_ediv_of_nonneg _ (Int.le_of_lt (Int.pow_pos (by decide)))]
    simp
  have hand : bitsV .and .u8 ((c / 2 ^ (7 - i % 8) : Nat) : Int) 1 = ((c / 2 ^ (7 - i % 8) % 2 : Nat) : Int) := by
    have hc : c / 2 ^ (7 - i % 8) < 256 := Nat.lt_of_le_of_lt (Nat.div_le_self _ _) hb
    generalize c / 2 ^ (7 - i % 8) = x at *
    have : (List.range 256).all (fun x => decide (bitsV .and .u8 (x : Int) 1 = ((x % 2 : Nat) : Int))) = true := by decide +kernel
    simpa using List.all_eq_true.1 this x (by simpa using hc)
  refine vc_ent ?_
  refine vc_in rfl rfl ?_
  repeat' (first | (refine go1 ?_; intros) | ((first | refine vl_caseG rfl rfl rfl rfl ?_ ?_ | refine v_cond rfl ?_ ?_) <;> (intro hb; (try simp only [hq1, hq2, hq3, hq4, ne_eq, hq5, hq6, hq7, hq8] at hb); try (exfalso; omega))) | fail)
  refine ⟨L, sei _ _ _, ?_, rfl⟩
  rw [hsh, hand]
end Go.Proofs.YtccbcdhpnkbkgaaDoor
namespace Go.Proofs.YtccbcdhpnkbkgaaDoor
open Go Go.RowKit
set_option linter.unusedVariables false
set_option linter.unusedSimpArgs false
open Classical

theorem ownPs_snoc (a : Option Addr) (c : Nat) (ws : List PR) (p : PR) : ownPs a c (ws ++ [p]) = own 151 33 a (ws.length + 1) c (prc ws ++ (p.cells ++ [])) := by
  unfold ownPs prc
  rw [flat_snoc, List.length_append, List.append_nil]
  rfl
noncomputable def pb0 (ps : List PR) (d : Nat) : List PR := ps.filter fun p => decide (bitAt p.key d = 0)
noncomputable def pb1 (ps : List PR) (d : Nat) : List PR := ps.filter fun p => decide (¬ bitAt p.key d = 0)
/-- The root of a map, and the error. -/
noncomputable def rootM (l : List KV) : List UInt8 := if MapOk l then rootF 258 l 0 else List.replicate 32 0
end Go.Proofs.YtccbcdhpnkbkgaaDoor
