/-
  Roots of maps. Roots of maps: the document's walk; the statement's law.
-/
import Derived.Test.YtcpndfffdbogbaaGreatDoorGI
import Derived.Test.YtcpndfffdbogbaaGreatDoorGF
set_option linter.unusedVariables false
set_option linter.unusedSimpArgs false
set_option linter.unusedSectionVars false

namespace Go.Proofs.YtcpndfffdbogbaaGreatDoor
open Go Go.RowKit
open Classical

/-- Keys that share so many bits. -/
def Shr (l : List KV) (d : Nat) : Prop := ∀ x ∈ l, ∀ y ∈ l, ∀ m, m < d → bitAt x.1 m = bitAt y.1 m
theorem Shr.zero (l : List KV) : Shr l 0 := fun _ _ _ _ m hm => by omega
theorem Shr.sub {l m : List KV} {d : Nat} (h : Shr l d) (hs : ∀ x ∈ m, x ∈ l) : Shr m d := fun x hx y hy => h x (hs x hx) y (hs y hy)
theorem Shr.step {l : List KV} {d : Nat} (h : Shr l d) {b : Nat} (hb : ∀ x ∈ l, bitAt x.1 d = b) : Shr l (d + 1) := fun x hx y hy m hm => by
  rcases Nat.lt_or_ge m d with e | e
  · exact h x hx y hy m e
  · obtain rfl : m = d := by omega
    rw [hb x hx, hb y hy]
set_option maxRecDepth 100000 in
theorem pbit_vc (w0 : World) (L : List Asn) (k : List UInt8) (hk : k.length = 32) (i : Nat) (hi : i < 256) :
    VC Tryz.prog w0 165 [.agg (bvs k).toArray, .int .i64 i] L fun v L' => v = .tuple #[.int .u8 (bitAt k i), .int .i64 0] ∧ L' = L := by
  have hg : (bvs k)[0 + i / 8]? = some (.int .u8 (k[i / 8]'(by omega)).toNat) := by rw [Nat.zero_add]; exact bvs_at k (i / 8) (by omega)
  have hb := (k[i / 8]'(by omega)).toNat_lt
  have hbit : bitAt k i = (k[i / 8]'(by omega)).toNat / 2 ^ (7 - i % 8) % 2 := by rw [bitAt, getD_get]
  rw [hbit]
  clear hbit
  generalize (k[i / 8]'(by omega)).toNat = c at *
  have hsh : ((c : Int)).fdiv (2 ^ min ((7 - i % 8 : Nat) : Int).toNat IntKind.u8.bits) = ((c / 2 ^ (7 - i % 8) : Nat) : Int) := by
    rw [show min ((7 - i % 8 : Nat) : Int).toNat IntKind.u8.bits = 7 - i % 8 by simp [IntKind.bits]; omega, Int.fdiv_eq_ediv_of_nonneg _ (Int.le_of_lt (Int.pow_pos (by decide)))]
    simp
  have hand : bitsV .and .u8 ((c / 2 ^ (7 - i % 8) : Nat) : Int) 1 = ((c / 2 ^ (7 - i % 8) % 2 : Nat) : Int) := by
    have hc : c / 2 ^ (7 - i % 8) < 256 := Nat.lt_of_le_of_lt (Nat.div_le_self _ _) hb
    generalize c / 2 ^ (7 - i % 8) = x at *
    have : (List.range 256).all (fun x => decide (bitsV .and .u8 (x : Int) 1 = ((x % 2 : Nat) : Int))) = true := by decide +kernel
    simpa using List.all_eq_true.1 this x (by simpa using hc)
  refine vc_ent ?_
  refine vc_in rfl rfl ?_
  repeat' (first | (refine go1 ?_; intros) | (refine goCC ?_ ?_ <;> (intro hb; (try simp only [hSQ] at hb); try (exfalso; omega))) | fail)
  refine ⟨L, sei _ _ _, ?_, rfl⟩
  rw [hsh, hand]
end Go.Proofs.YtcpndfffdbogbaaGreatDoor
namespace Go.Proofs.YtcpndfffdbogbaaGreatDoor
open Go Go.RowKit
open Classical

theorem ownPs_snoc (a : Option Addr) (c : Nat) (ws : List PR) (p : PR) : ownPs a c (ws ++ [p]) = own 170 33 a (ws.length + 1) c (prc ws ++ (p.cells ++ [])) := by
  unfold ownPs prc
  rw [flat_snoc, List.length_append, List.append_nil]
  rfl
end Go.Proofs.YtcpndfffdbogbaaGreatDoor
