/-
  What a reading of the arguments says of trees.
-/
import Derived.Test.YtcpndfffdbogbaaGreatDoorGH
import Derived.Test.YtcpndfffdbogbaaGreatDoorTB
set_option linter.unusedVariables false
set_option linter.unusedSimpArgs false
set_option linter.unusedSectionVars false

namespace Go.Proofs.YtcpndfffdbogbaaGreatDoor
open Go Go.RowKit

theorem takeT {l : List Value} {k : Nat} (h : k < l.length) : (l.drop k).take 1 = [l[k]] := by
  rw [List.drop_eq_getElem_cons h]; rfl
theorem cutT (l : List Value) (k n : Nat) : l.drop k = (l.drop k).take n ++ l.drop (k + n) := by
  rw [← List.drop_drop, List.take_append_drop]
set_option maxRecDepth 100000 in
theorem trod_node {H : Type} {enc : TypeId × Value → H} {W : World} {n : Nat} {cs : List Value} {y : DataW H × List MemPlace} (hy : DataW.trod enc Tryz.prog W 0 (fun _ => true) true n 72 cs = some y) :
    ∃ p : Nd, cs = p.cells ∧ p.key.length = 32 ∧ Bts W p.a p.v.length p.c p.v := by
  obtain ⟨xs, m, rfl, _, hlen, hxl, hx⟩ := DataW.trod_struct Tryz.underlying72 hy
  rw [show Tryz.prog.cellsOf 72 = 36 by kernel_rfl] at hlen
  have hy : ∀ i, i < 5 → ∃ y, xs[i]? = some y := fun i hi => ⟨_, List.getElem?_eq_getElem (by rw [hxl]; exact hi)⟩
  obtain ⟨y0, e0⟩ := hy 0 (by decide)
  obtain ⟨y1, e1⟩ := hy 1 (by decide)
  obtain ⟨y2, e2⟩ := hy 2 (by decide)
  obtain ⟨y3, e3⟩ := hy 3 (by decide)
  obtain ⟨y4, e4⟩ := hy 4 (by decide)
  have h0 : DataW.trod enc Tryz.prog W 0 (fun _ => true) true m 4 ((cs.drop 0).take (Tryz.prog.cellsOf 4)) = some y0 := (hx 0 _ rfl).trans e0
  have h1 : DataW.trod enc Tryz.prog W 0 (fun _ => true) true m 47 ((cs.drop 1).take (Tryz.prog.cellsOf 47)) = some y1 := (hx 1 _ rfl).trans e1
  have h2 : DataW.trod enc Tryz.prog W 0 (fun _ => true) true m 70 ((cs.drop 33).take (Tryz.prog.cellsOf 70)) = some y2 := (hx 2 _ rfl).trans e2
  have h3 : DataW.trod enc Tryz.prog W 0 (fun _ => true) true m 3 ((cs.drop 34).take (Tryz.prog.cellsOf 3)) = some y3 := (hx 3 _ rfl).trans e3
  have h4 : DataW.trod enc Tryz.prog W 0 (fun _ => true) true m 3 ((cs.drop 35).take (Tryz.prog.cellsOf 3)) = some y4 := (hx 4 _ rfl).trans e4
  rw [show Tryz.prog.cellsOf 4 = 1 by kernel_rfl] at h0
  rw [show Tryz.prog.cellsOf 47 = 32 by kernel_rfl] at h1
  rw [show Tryz.prog.cellsOf 70 = 1 by kernel_rfl] at h2
  rw [show Tryz.prog.cellsOf 3 = 1 by kernel_rfl] at h3 h4
  have u2 := takeT (l := cs) (k := 33) (by omega)
  obtain ⟨b, hb, _⟩ := DataW.trod_bool Tryz.underlying4 h0
  obtain ⟨k, hk, hkl⟩ := trod_dig h1
  rw [u2] at h2
  obtain ⟨a1, c1, l1, s1, b1⟩ := bts_trod h2
  rw [s1] at u2
  obtain ⟨m3, hm3, _, _⟩ := DataW.trod_int Tryz.underlying3 h3
  obtain ⟨m4, hm4, _, _⟩ := DataW.trod_int Tryz.underlying3 h4
  refine ⟨⟨b, k, a1, c1, l1, m3, m4⟩, ?_, hkl, b1⟩
  have e : cs = .bool b :: (bvs k ++ [.slice a1 l1.length c1, .int .i64 m3, .int .i64 m4]) := by
    have q0 : cs = cs.drop 0 := rfl
    have q5 : cs.drop 36 = [] := List.drop_eq_nil_of_le (by omega)
    rw [q0, cutT _ 0 1, cutT _ (0 + 1) 32, cutT _ (0 + 1 + 32) 1, cutT _ (0 + 1 + 32 + 1) 1, cutT _ (0 + 1 + 32 + 1 + 1) 1]
    simp only [Nat.zero_add, Nat.reduceAdd] at *
    rw [hb, hk, u2, hm3, hm4, q5]
    rfl
  exact e

/-- Nodes that can be read. -/
structure Nds (w : World) (a : Option Addr) (cap : Nat) (ns : List Nd) : Prop where
  hcap : ns.length ≤ cap
  len : ns.length ≤ 9223372036854775807
  key : ∀ p ∈ ns, p.key.length = 32
  rc : Rc w a (ndc ns)
  vs : ∀ p ∈ ns, Bts w p.a p.v.length p.c p.v
theorem Nds.rdA {w : World} {a : Option Addr} {cap : Nat} {ns : List Nd} (h : Nds w a cap ns) : RdA w a (ndc ns) := ⟨h.rc⟩
theorem Nds.rdV {w : World} {a : Option Addr} {cap : Nat} {ns : List Nd} (h : Nds w a cap ns) : RdNs w [] ns := ⟨fun p hp => by
  haveI : RdA w p.a (bvs p.v) := ⟨(h.vs p hp).rc⟩
  infer_instance⟩

set_option maxRecDepth 100000 in
open Go.ChangeShapes Go.WideShapes Go.ChangeAt in
/-- An argument that is a tree. -/
theorem open_tree {H : Type} {enc : TypeId × Value → H} {W : World} {base : Nat} {v : Value} {d : DataW H} {p : List MemPlace} (hv : Value.okWide Tryz.prog W .any base 27 v) (h : DataW.Trod enc Tryz.prog W 0 (fun _ => true) true 27 v d p) :
    ∃ a c ns r, v = .agg #[.slice a ns.length c, .int .i64 r] ∧ Nds W a c ns := by
  unfold Value.okWide at hv
  rw [Tryz.underlying27] at hv
  obtain ⟨cs, rfl, _⟩ := hv
  obtain ⟨fuel, hf⟩ := h
  obtain ⟨xs, m, rfl, _, hlen, hxl, hx⟩ := DataW.trod_struct Tryz.underlying27 hf
  rw [show Tryz.prog.cellsOf 27 = 2 by kernel_rfl] at hlen
  have hy : ∀ i, i < 2 → ∃ y, xs[i]? = some y := fun i hi => ⟨_, List.getElem?_eq_getElem (by rw [hxl]; exact hi)⟩
  obtain ⟨y0, e0⟩ := hy 0 (by decide)
  obtain ⟨y1, e1⟩ := hy 1 (by decide)
  have h0 : DataW.trod enc Tryz.prog W 0 (fun _ => true) true m 25 ((cs.toList.drop 0).take (Tryz.prog.cellsOf 25)) = some y0 := (hx 0 _ rfl).trans e0
  have h1 : DataW.trod enc Tryz.prog W 0 (fun _ => true) true m 3 ((cs.toList.drop 1).take (Tryz.prog.cellsOf 3)) = some y1 := (hx 1 _ rfl).trans e1
  rw [show Tryz.prog.cellsOf 25 = 1 by kernel_rfl] at h0
  rw [show Tryz.prog.cellsOf 3 = 1 by kernel_rfl] at h1
  have l3 : cs.toList.length = 2 := hlen
  have u0 := takeT (l := cs.toList) (k := 0) (by omega)
  rw [u0] at h0
  obtain ⟨a, c, ns, e1, c1, c2, c3, c4⟩ := open_slice Tryz.underlying25 (c := 36) (by kernel_rfl) (by decide) Nd.cells (fun p => p.key.length = 32 ∧ Bts W p.a p.v.length p.c p.v) (fun n cs y _ hy => trod_node hy) h0
  rw [e1] at u0
  obtain ⟨r, hr, _, _⟩ := DataW.trod_int Tryz.underlying3 h1
  refine ⟨a, c, ns, r, ?_, c1, Nat.le_trans c1 (Nat.le_trans c2 (by decide)), fun p hp => (c4 p hp).1.1, c3, fun p hp => (c4 p hp).1.2⟩
  have e : cs.toList = [.slice a ns.length c, .int .i64 r] := by
    have q0 : cs.toList = cs.toList.drop 0 := rfl
    have q5 : cs.toList.drop 2 = [] := List.drop_eq_nil_of_le (by omega)
    rw [q0, cutT _ 0 1, cutT _ (0 + 1) 1]
    simp only [Nat.zero_add, Nat.reduceAdd] at *
    rw [u0, hr, q5]
    rfl
  rw [show cs = cs.toList.toArray by simp, e]
end Go.Proofs.YtcpndfffdbogbaaGreatDoor
