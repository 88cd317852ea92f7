/-
  What a reading of the arguments says of proofs.
-/
import Derived.Test.YtnoihibaoalkaaaDoorGH
import Derived.Test.YtnoihibaoalkaaaDoorGN
set_option linter.unusedVariables false
set_option linter.unusedSimpArgs false
namespace Go.Proofs.YtnoihibaoalkaaaDoor
open Go Go.RowKit

theorem take1 {l : List Value} {k : Nat} (h : k < l.length) : (l.drop k).take 1 = [l[k]] := by
  rw [List.drop_eq_getElem_cons h]; rfl
theorem cut_at (l : List Value) (k n : Nat) : l.drop k = (l.drop k).take n ++ l.drop (k + n) := by
  rw [← List.drop_drop, List.take_append_drop]

set_option maxRecDepth 100000 in
theorem open_prf {H : Type} {enc : TypeId × Value → H} {W : World} {base : Nat} {v : Value} {d : DataW H} {p : List MemPlace} (hv : Value.okWide Tryd.prog W .any base 30 v) (h : DataW.Trod enc Tryd.prog W 0 (fun _ => true) true 30 v d p) :
    ∃ q : Prf, v = .agg q.cells.toArray ∧ q.ok0 ∧ Rc W q.va (bvs q.vl) ∧ Rc W q.pa (bvs q.pl.flatten) := by
  unfold Value.okWide at hv
  rw [Tryd.underlying30] at hv
  obtain ⟨cs, rfl, _⟩ := hv
  obtain ⟨fuel, hf⟩ := h
  obtain ⟨xs, n, rfl, _, hlen, hxl, hx⟩ := DataW.trod_struct Tryd.underlying30 hf
  rw [show Tryd.prog.cellsOf 30 = 67 by kernel_rfl] at hlen
  have hy : ∀ i, i < 5 → ∃ y, xs[i]? = some y := fun i hi => ⟨_, List.getElem?_eq_getElem (by rw [hxl]; exact hi)⟩
  obtain ⟨y0, e0⟩ := hy 0 (by decide)
  obtain ⟨y1, e1⟩ := hy 1 (by decide)
  obtain ⟨y2, e2⟩ := hy 2 (by decide)
  obtain ⟨y3, e3⟩ := hy 3 (by decide)
  obtain ⟨y4, e4⟩ := hy 4 (by decide)
  have h0 : DataW.trod enc Tryd.prog W 0 (fun _ => true) true n 26 ((cs.toList.drop 0).take (Tryd.prog.cellsOf 26)) = some y0 := (hx 0 _ rfl).trans e0
  have h1 : DataW.trod enc Tryd.prog W 0 (fun _ => true) true n 5 ((cs.toList.drop 32).take (Tryd.prog.cellsOf 5)) = some y1 := (hx 1 _ rfl).trans e1
  have h2 : DataW.trod enc Tryd.prog W 0 (fun _ => true) true n 26 ((cs.toList.drop 33).take (Tryd.prog.cellsOf 26)) = some y2 := (hx 2 _ rfl).trans e2
  have h3 : DataW.trod enc Tryd.prog W 0 (fun _ => true) true n 27 ((cs.toList.drop 65).take (Tryd.prog.cellsOf 27)) = some y3 := (hx 3 _ rfl).trans e3
  have h4 : DataW.trod enc Tryd.prog W 0 (fun _ => true) true n 28 ((cs.toList.drop 66).take (Tryd.prog.cellsOf 28)) = some y4 := (hx 4 _ rfl).trans e4
  have l3 : cs.toList.length = 67 := hlen
  rw [show Tryd.prog.cellsOf 26 = 32 by kernel_rfl] at h0 h2
  rw [show Tryd.prog.cellsOf 5 = 1 by kernel_rfl] at h1
  rw [show Tryd.prog.cellsOf 27 = 1 by kernel_rfl] at h3
  rw [show Tryd.prog.cellsOf 28 = 1 by kernel_rfl] at h4
  have u3 := take1 (l := cs.toList) (k := 65) (by omega)
  have u4 := take1 (l := cs.toList) (k := 66) (by omega)
  obtain ⟨k, hk, hkl⟩ := trod_dig h0
  obtain ⟨m, hm, _, hw⟩ := DataW.trod_int Tryd.underlying5 h1
  obtain ⟨o, ho, hol⟩ := trod_dig h2
  rw [u3] at h3
  rw [u4] at h4
  obtain ⟨a1, c1, l1, s1, b1⟩ := bts_trod h3
  obtain ⟨a2, c2, l2, s2, _, _, hd, b2⟩ := dgs_trod h4
  rw [s1] at u3
  rw [s2] at u4
  have hb := bounds_u8 hw
  refine ⟨⟨k, m.toNat, o, a1, c1, l1, a2, c2, l2⟩, ?_, ⟨hkl, by show m.toNat < 256; omega, hol, hd⟩, b1.rc, b2⟩
  have e : cs.toList = bvs k ++ (.int .u8 m.toNat :: (bvs o ++ [.slice a1 l1.length c1, .slice a2 l2.length c2])) := by
    have q0 : cs.toList = cs.toList.drop 0 := rfl
    have q5 : cs.toList.drop 67 = [] := List.drop_eq_nil_of_le (by omega)
    have hm' : (cs.toList.drop 32).take 1 = [.int .u8 (m.toNat : Int)] := by rw [Int.toNat_of_nonneg (by omega)]; exact hm
    rw [q0, cut_at _ 0 32, cut_at _ (0 + 32) 1, cut_at _ (0 + 32 + 1) 32, cut_at _ (0 + 32 + 1 + 32) 1, cut_at _ (0 + 32 + 1 + 32 + 1) 1]
    simp only [Nat.zero_add, Nat.reduceAdd] at *
    rw [hk, hm', ho, u3, u4, q5]
    rfl
  show Value.agg cs = .agg (List.toArray _)
  rw [show cs = cs.toList.toArray by simp, e]
  rfl
end Go.Proofs.YtnoihibaoalkaaaDoor
