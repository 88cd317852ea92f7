/-
  What a reading of the arguments says of pairs.
-/
import Derived.Test.YtmfpiodcioakhaaGH
import Derived.Test.YtmfpiodcioakhaaGI
set_option linter.unusedVariables false
set_option linter.unusedSimpArgs false
namespace Go.Proofs.Ytmfpiodcioakhaa
open Go Go.RowKit

theorem takeC {l : List Value} {k : Nat} (h : k < l.length) : (l.drop k).take 1 = [l[k]] := by
  rw [List.drop_eq_getElem_cons h]; rfl
theorem trod_pair {H : Type} {enc : TypeId × Value → H} {W : World} {n : Nat} {cs : List Value} {y : DataW H × List MemPlace} (hy : DataW.trod enc Try.prog W 0 (fun _ => true) true n 46 cs = some y) :
    ∃ p : PR, cs = p.cells ∧ p.key.length = 32 ∧ Bts W p.a p.v.length p.c p.v := by
  obtain ⟨xs, m, rfl, _, hlen, hxl, hx⟩ := DataW.trod_struct Try.underlying46 hy
  rw [show Try.prog.cellsOf 46 = 33 by kernel_rfl] at hlen
  have hy : ∀ i, i < 2 → ∃ y, xs[i]? = some y := fun i hi => ⟨_, List.getElem?_eq_getElem (by rw [hxl]; exact hi)⟩
  obtain ⟨y0, e0⟩ := hy 0 (by decide)
  obtain ⟨y1, e1⟩ := hy 1 (by decide)
  have h0 : DataW.trod enc Try.prog W 0 (fun _ => true) true m 24 ((cs.drop 0).take (Try.prog.cellsOf 24)) = some y0 := (hx 0 _ rfl).trans e0
  have h1 : DataW.trod enc Try.prog W 0 (fun _ => true) true m 25 ((cs.drop 32).take (Try.prog.cellsOf 25)) = some y1 := (hx 1 _ rfl).trans e1
  rw [show Try.prog.cellsOf 24 = 32 by kernel_rfl] at h0
  rw [show Try.prog.cellsOf 25 = 1 by kernel_rfl] at h1
  have u1 := takeC (l := cs) (k := 32) (by omega)
  obtain ⟨k, hk, hkl⟩ := trod_dig h0
  rw [u1] at h1
  obtain ⟨a1, c1, l1, s1, b1⟩ := bts_trod h1
  rw [s1] at u1
  refine ⟨⟨k, a1, c1, l1⟩, ?_, hkl, b1⟩
  have e : cs = (cs.drop 0).take 32 ++ ((cs.drop 32).take 1) := by
    have q : cs.drop 33 = [] := List.drop_eq_nil_of_le (by omega)
    conv => lhs; rw [← List.take_append_drop 32 cs, ← List.take_append_drop 1 (cs.drop 32), List.drop_drop, q, List.append_nil]
    rw [List.drop_zero]
  rw [e, hk, u1]
  rfl

/-- Pairs that can be read. -/
structure Prs (w : World) (a : Option Addr) (n cap : Nat) (ps : List PR) : Prop where
  hn : n = ps.length
  hcap : ps.length ≤ cap
  len : ps.length ≤ 9223372036854775807
  key : ∀ p ∈ ps, p.key.length = 32
  rc : Rc w a (prc ps)
  vs : ∀ p ∈ ps, Bts w p.a p.v.length p.c p.v
theorem Prs.rdA {w : World} {a : Option Addr} {n cap : Nat} {ps : List PR} (h : Prs w a n cap ps) : RdA w a (prc ps) := ⟨h.rc⟩
theorem Prs.rdV {w : World} {a : Option Addr} {n cap : Nat} {ps : List PR} (h : Prs w a n cap ps) : RdVs w [] ps := ⟨fun p hp => by
  haveI : RdA w p.a (bvs p.v) := ⟨(h.vs p hp).rc⟩
  infer_instance⟩

set_option maxRecDepth 100000 in
open Go.ChangeShapes Go.WideShapes Go.ChangeAt in
/-- An argument that is a slice of pairs. -/
theorem open_prs {H : Type} {enc : TypeId × Value → H} {W : World} {base : Nat} {v : Value} {d : DataW H} {p : List MemPlace} (hv : Value.okWide Try.prog W .any base 22 v) (h : DataW.Trod enc Try.prog W 0 (fun _ => true) true 22 v d p) :
    ∃ a n cap ps, v = .slice a n cap ∧ Prs W a n cap ps := by
  obtain ⟨a0, len0, cap0, rfl⟩ := okWide_slice Try.underlying22 hv
  obtain ⟨fuel, hf⟩ := h
  obtain ⟨a, cap, ps, e, h1, h2, h3, h4⟩ := open_slice Try.underlying22 (c := 33) (by kernel_rfl) (by decide) PR.cells (fun p => p.key.length = 32 ∧ Bts W p.a p.v.length p.c p.v) (fun n cs y _ hy => trod_pair hy) hf
  refine ⟨_, _, _, ps, rfl, ?_⟩
  simp only [Value.slice.injEq] at e
  obtain ⟨rfl, rfl, rfl⟩ := e
  exact ⟨rfl, h1, by have : maxLen ≤ 9223372036854775807 := by decide
                     omega, fun p hp => (h4 p hp).1.1, h3, fun p hp => (h4 p hp).1.2⟩
set_option maxRecDepth 100000 in
/-- An argument that is a pair. -/
theorem open_pair {H : Type} {enc : TypeId × Value → H} {W : World} {base : Nat} {v : Value} {d : DataW H} {p : List MemPlace} (hv : Value.okWide Try.prog W .any base 46 v) (h : DataW.Trod enc Try.prog W 0 (fun _ => true) true 46 v d p) :
    ∃ q : PR, v = .agg q.cells.toArray ∧ q.key.length = 32 ∧ Bts W q.a q.v.length q.c q.v := by
  unfold Value.okWide at hv
  rw [Try.underlying46] at hv
  obtain ⟨cs, rfl, _⟩ := hv
  obtain ⟨fuel, hf⟩ := h
  obtain ⟨q, e, h1, h2⟩ := trod_pair hf
  refine ⟨q, ?_, h1, h2⟩
  have e2 : cs = q.cells.toArray := by
    rw [← show cs.toList = q.cells from e]
  rw [e2]
end Go.Proofs.Ytmfpiodcioakhaa
