/-
  A reply's kind and code are read; a reply that is not well is read whole.
-/
import Derived.Test.YtgffejpcldeklaaWirN
import Derived.Test.YtgffejpcldeklaaWirL
set_option linter.unusedVariables false
set_option linter.unusedSimpArgs false
set_option linter.unusedSectionVars false

namespace Go.Proofs.Ytgffejpcldeklaa
open Go Go.RowKit
open Classical

def kcH (E : List Asn) (g5 g6 : Nat) (s : Nat × Nat) : List Asn := blk g5 3 [.int .i64 s.1] :: blk g6 3 [.int .i64 s.2] :: E
def kcP (g5 g6 : Nat) : List (PK (Nat × Nat)) := [.num g5 0 1 8 (fun s v => (v, s.2)), .num g6 0 2 999 (fun s v => (s.1, v))]
def kcOk (s : Nat × Nat) : Prop := s.1 ≤ 8 ∧ s.2 ≤ 999
theorem kcP_ok (w0 : World) (E : List Asn) (g5 g6 : Nat) : ∀ p ∈ kcP g5 g6, p.Ok w0 (kcH E g5 g6) kcOk := by
  intro p hp
  simp only [kcP, List.mem_cons, List.not_mem_nil, or_false] at hp
  rcases hp with rfl | rfl
  · exact ⟨⟨by decide, by decide, by decide⟩, fun s hs => ⟨0, 3, [.int .i64 s.1], ⟨rfl⟩, Nat.le_refl _, fun v hv => ⟨⟨hv, hs.2⟩, ⟨rfl⟩⟩⟩⟩
  · exact ⟨⟨by decide, by decide, by decide⟩, fun s hs => ⟨1, 3, [.int .i64 s.2], ⟨rfl⟩, Nat.le_refl _, fun v hv => ⟨⟨hs.1, hv⟩, ⟨rfl⟩⟩⟩⟩
/-- What is read of the first three bytes: no place is in it. -/
def kcR (B : List UInt8) : RG (Nat × Nat) := PK.fold (kcP 0 0) ⟨B, false, (0, 0)⟩
theorem kcR_eq (g5 g6 : Nat) (B : List UInt8) : PK.fold (kcP g5 g6) ⟨B, false, (0, 0)⟩ = kcR B := rfl
theorem kcR_ok (B : List UInt8) : kcOk (kcR B).a := PK.fold_ok (w0 := default) (kcP_ok _ [] 0 0) (s := ⟨B, false, (0, 0)⟩) (show kcOk (0, 0) from ⟨by decide, by decide⟩)
/-- A reply of a kind and a code alone. -/
def rpC (k c : Nat) : Rp := { rp0 with kind := UInt8.ofNat k, code := c }
theorem rpC_ok {k c : Nat} (h : c ≤ 999) : (rpC k c).ok := ⟨⟨by show (-9223372036854775808 : Int) ≤ (c : Int); omega, by show (c : Int) < 9223372036854775808; omega⟩, rp0_ok.height, rp0_ok.dig, rp0_ok.nonce, rp0_ok.bal, rp0_ok.rc, rp0_ok.recc, rp0_ok.prf, rp0_ok.sub, rp0_ok.num, rp0_ok.hd, rp0_ok.hdh, rp0_ok.hdm⟩
set_option maxRecDepth 100000 in
theorem rp0_cells : .int .u8 0 :: (.int .i64 0 :: (.int .i64 0 :: (bvs (List.replicate 32 0) ++ (.int .u64 0 :: (.int .u64 0 :: (bvs (List.replicate 32 0) ++ (.int .u8 0 :: (.int .i64 0 :: (bvs (List.replicate 32 0) ++ (bvs (List.replicate 32 0) ++ (.int .u8 0 :: (.slice none 0 0 :: (.slice none 0 0 :: (.int .i64 0 :: (.bool false :: (.int .i64 0 :: (.bool false :: (.int .i64 0 :: (bvs (List.replicate 32 0) ++ (bvs (List.replicate 32 0) ++ (bvs (List.replicate 32 0) ++ [.int .i64 0]))))))))))))))))))))) = rp0.cells := rfl
end Go.Proofs.Ytgffejpcldeklaa
