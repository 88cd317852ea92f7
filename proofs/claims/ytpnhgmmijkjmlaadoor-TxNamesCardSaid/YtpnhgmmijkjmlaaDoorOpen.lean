/-
  What a reading of the arguments says of slices of bytes.
-/
import Derived.Test.YtpnhgmmijkjmlaaDoorTypes
import Derived.ProofKit
import Derived.OpenShut
namespace Go.Proofs.YtpnhgmmijkjmlaaDoor
open Go Go.RowKit

/-- A slice of integers that came in: nil; or a row of 'cap' cells. -/
def IsRow (k : IntKind) (w : World) (a : Option Addr) (len cap : Nat) (zs : List Int) : Prop :=
  (a = none ∧ len = 0 ∧ cap = 0 ∧ zs = []) ∨
  ∃ x, a = some x ∧ len ≤ cap ∧ cap ≤ maxLen ∧ zs.length = cap ∧ (∀ i, i < zs.length → w.cell? (x.add i) = some (.int k (zs.getD i 0))) ∧ ∀ n ∈ zs, (Lit.int k n).wf = true

/-- A slice of bytes that can be read: l. -/
structure Bts (w : World) (a : Option Addr) (n cap : Nat) (l : List UInt8) : Prop where
  hn : n = l.length
  hcap : l.length ≤ cap
  hmax : cap ≤ maxLen
  rc : Rc w a (bvs l)

theorem cell?_spot {w : World} {x : Addr} {v : Value} (h : w.cell? x = some v) : x.spot = none := by
  unfold World.cell? at h
  split at h
  · split at h
    · cases h
    · rename_i hs; simpa using hs
  · cases h

theorem u8_wf {n : Int} (h : (Lit.int .u8 n).wf = true) : ((UInt8.ofNat n.toNat).toNat : Int) = n := by
  have := bounds_u8 h
  rw [UInt8.toNat_ofNat']
  omega

theorem bts_of_row {w : World} {a : Option Addr} {len cap : Nat} {zs : List Int} (h : IsRow .u8 w a len cap zs) : ∃ l, Bts w a len cap l := by
  rcases h with ⟨rfl, rfl, rfl, rfl⟩ | ⟨x, rfl, h1, h2, h3, h4, h5⟩
  · exact ⟨[], rfl, Nat.le_refl _, Nat.zero_le _, .inl rfl⟩
  · refine ⟨(zs.take len).map (fun n => UInt8.ofNat n.toNat), by simp; omega, by simp; omega, h2, ?_⟩
    by_cases h0 : len = 0
    · subst h0; exact .inl rfl
    · have hc0 := h4 0 (by omega)
      have hs : x.spot = none := cell?_spot (x := x) (by simpa [Addr.add] using hc0)
      obtain ⟨b, off, s⟩ := x
      simp only at hs
      subst hs
      refine .inr ⟨b, off, rfl, fun j u hu => ?_⟩
      have hj : j < len := by
        rcases Nat.lt_or_ge j len with h | h
        · exact h
        · rw [List.getElem?_eq_none (by simp; omega)] at hu; cases hu
      have := h4 j (by omega)
      rw [addr_add] at this
      rw [this]
      have hz : zs[j]? = some (zs[j]'(by omega)) := by simp [show j < zs.length by omega]
      have hw := u8_wf (h5 (zs[j]'(by omega)) (List.getElem_mem _))
      have hu' : (bvs ((zs.take len).map fun n => UInt8.ofNat n.toNat))[j]? = some (.int .u8 (zs[j]'(by omega))) := by
        simp only [bvs, List.map_map, List.getElem?_map, List.getElem?_take, hj, if_true, hz, Option.map_some, Function.comp, bv, hw]
      rw [hu'] at hu
      simpa [List.getD, hz] using hu

set_option maxRecDepth 100000 in
open Go.ChangeShapes Go.WideShapes Go.ChangeAt in
/-- An argument that is a slice of bytes. -/
theorem open_bts {H : Type} {enc : TypeId × Value → H} {W : World} {base : Nat} {v : Value} {d : DataW H} {p : List MemPlace} (hv : Value.okWide Tryd.prog W .any base 28 v) (h : DataW.Trod enc Tryd.prog W 0 (fun _ => true) true 28 v d p) :
    ∃ a n cap l, v = .slice a n cap ∧ Bts W a n cap l := by
  obtain ⟨a0, len0, cap0, rfl⟩ := okWide_slice Tryd.underlying28 hv
  obtain ⟨z0, w0⟩ : ∃ zs, IsRow .u8 W a0 len0 cap0 zs := by
    obtain ⟨fuel, hf⟩ := h
    rcases open_ints Tryd.underlying28 Tryd.underlying5 (by kernel_rfl) hf with ⟨hcs, _⟩ | ⟨x, l, c, zs, hcs, _, hl, hm, hz, _, hcell, hwz⟩
    · simp [Value.cells] at hcs
      obtain ⟨rfl, rfl, rfl⟩ := hcs
      exact ⟨[], .inl ⟨rfl, rfl, rfl, rfl⟩⟩
    · simp [Value.cells] at hcs
      obtain ⟨rfl, rfl, rfl⟩ := hcs
      exact ⟨zs, .inr ⟨_, rfl, hl, hm, by simpa using hz, hcell, hwz⟩⟩
  obtain ⟨l, hb⟩ := bts_of_row w0
  exact ⟨_, _, _, l, rfl, hb⟩

end Go.Proofs.YtpnhgmmijkjmlaaDoor
